import Derived.Shelf.LaysM
import Derived.Shelf.Strconv.Itoa3
import Derived.Test.YtieofkhcboolkaaGreatDoorKql
import Derived.Lib.ItoaLen
import Derived.Test.YtieofkhcboolkaaGreatDoorKqk
import Derived.Shelf.Slices.Clone
import Derived.Test.YtieofkhcboolkaaGreatDoorKqi
import Derived.Test.YtieofkhcboolkaaGreatDoorKqj
import Derived.Test.YtieofkhcboolkaaGreatDoorKqf
import Derived.Test.YtieofkhcboolkaaGreatDoorKqh
import Derived.ProofKit
set_option linter.unusedSimpArgs false
set_option linter.unusedVariables false
set_option maxRecDepth 100000

namespace Go.AW
open Go.Proofs.Tryz
open Go.Shelf
set_option linter.unusedSimpArgs false
set_option linter.unusedVariables false
set_option maxRecDepth 100000
def aC1:Go.Shelf.Ren:=⟨fun | 171=>249 | 243=>310 | 246=>344 | 283=>361 | 284=>362 | 285=>363 | 286=>364 | 129=>369 | 317=>368 | 318=>370 | 319=>371 | 320=>372 | 337=>374 | 338=>375 | n=>n,fun | 3=>3 | 9=>9 | 2=>2 | 4=>4 | 171=>353 | 0=>0 | 53=>354 | 37=>22 | 5=>5 | 173=>357 | 212=>362 | 51=>363 | 20=>20 | 213=>364 | 46=>285 | 232=>367 | 233=>368 | n=>n,fun | 17=>1 | 18=>2 | 19=>3 | n=>n⟩
theorem RE:Go.Proofs.LaysM.n171 prog aC1:={
 mixed:=by kernel_rfl
 f129:=Go.Proofs.Tryz.func369.trans (fR some (by kernel_rfl))
 f171:=Go.Proofs.Tryz.func249.trans (fR some (by kernel_rfl))
 f243:=Go.Proofs.Tryz.func310.trans (fR some (by kernel_rfl))
 f246:=Go.Proofs.Tryz.func344.trans (fR some (by kernel_rfl))
 f283:=Go.Proofs.Tryz.func361.trans (fR some (by kernel_rfl))
 f284:=Go.Proofs.Tryz.func362.trans (fR some (by kernel_rfl))
 f285:=Go.Proofs.Tryz.func363.trans (fR some (by kernel_rfl))
 f286:=Go.Proofs.Tryz.func364.trans (fR some (by kernel_rfl))
 f317:=Go.Proofs.Tryz.func368.trans (fR some (by kernel_rfl))
 f318:=Go.Proofs.Tryz.func370.trans (fR some (by kernel_rfl))
 f319:=Go.Proofs.Tryz.func371.trans (fR some (by kernel_rfl))
 f320:=Go.Proofs.Tryz.func372.trans (fR some (by kernel_rfl))
 f337:=Go.Proofs.Tryz.func374.trans (fR some (by kernel_rfl))
 f338:=Go.Proofs.Tryz.func375.trans (fR some (by kernel_rfl))
 t0:=Go.Proofs.Tryz.underlying0
 a0:=Go.Proofs.Tryz.isAgg0
 z0:=Go.Proofs.Tryz.sizeOf0
 v0:=Go.Proofs.Tryz.zeroValue0
 t2:=Go.Proofs.Tryz.underlying2
 a2:=Go.Proofs.Tryz.isAgg2
 z2:=Go.Proofs.Tryz.sizeOf2
 v2:=Go.Proofs.Tryz.zeroValue2
 t3:=Go.Proofs.Tryz.underlying3
 a3:=Go.Proofs.Tryz.isAgg3
 z3:=Go.Proofs.Tryz.sizeOf3
 v3:=Go.Proofs.Tryz.zeroValue3
 t4:=Go.Proofs.Tryz.underlying4
 a4:=Go.Proofs.Tryz.isAgg4
 z4:=Go.Proofs.Tryz.sizeOf4
 v4:=Go.Proofs.Tryz.zeroValue4
 t5:=Go.Proofs.Tryz.underlying5
 a5:=Go.Proofs.Tryz.isAgg5
 z5:=Go.Proofs.Tryz.sizeOf5
 v5:=Go.Proofs.Tryz.zeroValue5
 t9:=Go.Proofs.Tryz.underlying9
 a9:=Go.Proofs.Tryz.isAgg9
 z9:=Go.Proofs.Tryz.sizeOf9
 v9:=Go.Proofs.Tryz.zeroValue9
 t20:=Go.Proofs.Tryz.underlying20
 a20:=Go.Proofs.Tryz.isAgg20
 z20:=Go.Proofs.Tryz.sizeOf20
 v20:=Go.Proofs.Tryz.zeroValue20
 t37:=Go.Proofs.Tryz.underlying22
 a37:=Go.Proofs.Tryz.isAgg22
 z37:=Go.Proofs.Tryz.sizeOf22
 v37:=Go.Proofs.Tryz.zeroValue22
 t46:=Go.Proofs.Tryz.underlying285
 a46:=Go.Proofs.Tryz.isAgg285
 z46:=Go.Proofs.Tryz.sizeOf285
 v46:=Go.Proofs.Tryz.zeroValue285
 t51:=Go.Proofs.Tryz.underlying363
 a51:=Go.Proofs.Tryz.isAgg363
 z51:=Go.Proofs.Tryz.sizeOf363
 v51:=Go.Proofs.Tryz.zeroValue363
 t53:=Go.Proofs.Tryz.underlying354
 a53:=Go.Proofs.Tryz.isAgg354
 z53:=Go.Proofs.Tryz.sizeOf354
 v53:=Go.Proofs.Tryz.zeroValue354
 t171:=Go.Proofs.Tryz.underlying353
 a171:=Go.Proofs.Tryz.isAgg353
 z171:=Go.Proofs.Tryz.sizeOf353
 v171:=Go.Proofs.Tryz.zeroValue353
 t173:=Go.Proofs.Tryz.underlying357
 a173:=Go.Proofs.Tryz.isAgg357
 z173:=Go.Proofs.Tryz.sizeOf357
 v173:=Go.Proofs.Tryz.zeroValue357
 t212:=Go.Proofs.Tryz.underlying362
 a212:=Go.Proofs.Tryz.isAgg362
 z212:=Go.Proofs.Tryz.sizeOf362
 v212:=Go.Proofs.Tryz.zeroValue362
 t213:=Go.Proofs.Tryz.underlying364
 a213:=Go.Proofs.Tryz.isAgg364
 z213:=Go.Proofs.Tryz.sizeOf364
 t232:=Go.Proofs.Tryz.underlying367
 a232:=Go.Proofs.Tryz.isAgg367
 z232:=Go.Proofs.Tryz.sizeOf367
 v232:=Go.Proofs.Tryz.zeroValue367
 t233:=Go.Proofs.Tryz.underlying368
 a233:=Go.Proofs.Tryz.isAgg368
 z233:=Go.Proofs.Tryz.sizeOf368
 v233:=Go.Proofs.Tryz.zeroValue368
 g17:=by kernel_rfl
 g18:=by kernel_rfl
 g19:=by kernel_rfl
 i0:=by kernel_rfl
 i2:=by kernel_rfl
 i3:=by kernel_rfl
 i4:=by kernel_rfl
 i5:=by kernel_rfl
 i9:=by kernel_rfl
 i20:=by kernel_rfl
 i37:=by kernel_rfl
 i46:=by kernel_rfl
 i51:=by kernel_rfl
 i53:=by kernel_rfl
 i171:=by kernel_rfl
 i173:=by kernel_rfl
 i212:=by kernel_rfl
 i232:=by kernel_rfl
 i233:=by kernel_rfl
 m17:=by kernel_rfl
 m18:=by kernel_rfl
 m19:=by kernel_rfl }
theorem BL:∀(f u:Nat) (acc:ByteArray),u<10 ^ f→0<f→eO f u acc=⟨(Lib.decDigits u).toArray⟩++acc
 | 0,_,_,_,h=>absurd h (by decide)
 | f+1,u,acc,h,_=>by
  rw[eO,Lib.decDigits]
  rw[Nat.pow_succ] at h
  by_cases h9:9<u
  · have hf:0<f:=by
     rcases AD f with rfl | h'
     · simp at h;omega
     · exact h'
    rw[aU h9,dif_neg (by omega),BL f (u / 10) _ (by omega) hf]
    apply ByteArray.ext
    simp [ByteArray.data_append]
  · rw[aS h9,dif_pos (by omega)]
theorem aC2{n:Int}(h1: -999≤n)(h2:n≤999):(⟨(Lib.itoa n).toArray⟩:ByteArray)=gN n:=by
 unfold Lib.itoa gN
 by_cases h:n<0
 · rw[aU h,aU h,BL 20 _ _ (by omega) (by decide),show n.natAbs=(-n).toNat by omega]
   apply ByteArray.ext
   simp [ByteArray.data_append]
 · rw[aS h,aS h,BL 20 _ _ (by omega) (by decide)]
   apply ByteArray.ext
   simp [ByteArray.data_append]
theorem ZL(n:Int):(gN n).size≤21:=by
 have h0:(⟨#[]⟩:ByteArray).size=0:=rfl
 unfold gN
 split
 · have:=oL 20 (-n).toNat ⟨#[]⟩
   rw[bU]
   show 1+_≤_
   omega
 · have:=oL 20 n.toNat ⟨#[]⟩
   omega
def mN:AO:=.tab (Lib.pow10Tab.map fun z=>Value.int .u64 z).toArray
abbrev kR:Nat:=1
def SF:String:= "internal/strconv.uint64pow10"
theorem S1{P:Program}{w:World}{g:Nat}{name:String}{k:IntKind}{zs:List Int}{st:aA}(hg:P.globalNamed name=some g)(S:bQ w.heap st)(h:st g=some (.tab (zs.map fun z=>Value.int k z).toArray)):Lib.TabIs P w name k zs:=by
 obtain⟨_,t,e⟩:=S g _ h
 unfold Lib.TabIs World.var?
 rw[hg,wM,e]
theorem RS(n:Int)(h1: -999≤n)(h2:n≤999)(st:aA)(hT:st kR=some mN):aD prog 249 [.int .i64 n] st (fun r st'=>r=.str (gN n)∧st'=st):=by
 refine⟨⟨_,func249,rfl,by kernel_rfl⟩,fun w vs S V=>?_⟩
 obtain rfl:vs= [.int .i64 n]:=by
  obtain⟨v,r,rfl,v1,v2⟩:=V
  obtain rfl:r= []:=v2
  rw[v1.eT]
 refine(Go.Proofs.Any.strconv_Itoa RE n (by omega) (by omega) w (S1 (by kernel_rfl) S hT)).mono ?_
 rintro e w' ⟨rfl,k,os,rfl⟩
 rw[aC2 h1 h2]
 have X:Ext w.heap (Sort.grow (w.drewN k) os).heap:=⟨by simp [Sort.grow],fun b hb=>by simp only[Sort.grow,World.heap_drewN];rw[Array.getElem?_append_left hb]⟩
 exact⟨_,.str (gN n),st,rfl,⟨rfl,rfl,by have:=ZL n;show _≤(9223372036854775807:Nat);omega⟩,S.ext X,X.step st,⟨rfl,rfl,rfl⟩,rfl,rfl⟩
end Go.AW

namespace Go.AW
open Go.Proofs.Tryz
def yC(n:Int):ByteArray:=⟨(Lib.itoa n).toArray⟩
theorem RF{n:Int}(h1: -9223372036854775808≤n)(h2:n≤9223372036854775807):(yC n).size≤21:=by
 show(Lib.itoa n).toArray.size≤21
 rw[List.size_toArray]
 exact Lib.itoa_length_le n h1 h2
theorem RT(n:Int)(h1: -9223372036854775808≤n)(h2:n≤9223372036854775807)(st:aA)(hT:st kR=some mN):aD prog 249 [.int .i64 n] st (fun r st'=>r=.str (yC n)∧st'=st):=by
 refine⟨⟨_,func249,rfl,by kernel_rfl⟩,fun w vs S V=>?_⟩
 obtain rfl:vs= [.int .i64 n]:=by
  obtain⟨v,r,rfl,v1,v2⟩:=V
  obtain rfl:r= []:=v2
  rw[v1.eT]
 refine(Go.Proofs.Any.strconv_Itoa RE n h1 h2 w (S1 (by kernel_rfl) S hT)).mono ?_
 rintro e w' ⟨rfl,k,os,rfl⟩
 have X:Ext w.heap (Sort.grow (w.drewN k) os).heap:=⟨by simp [Sort.grow],fun b hb=>by simp only[Sort.grow,World.heap_drewN];rw[Array.getElem?_append_left hb]⟩
 exact⟨_,.str (yC n),st,rfl,⟨rfl,rfl,by have:=RF h1 h2;show _≤(9223372036854775807:Nat);omega⟩,S.ext X,X.step st,⟨rfl,rfl,rfl⟩,rfl,rfl⟩
theorem yI{N:Int}{t:Tm}(h:j1 N t):(t.k=1∨t.k=2∨t.k=3)∧(t.k=1→t.ts= [])∧(t.k=2→-999≤t.n∧t.n≤999)∧(t.k=3→t.s.size≤6)∧t.ts.length≤4:=by
 obtain⟨h,-⟩:=h
 obtain⟨k,n,s,ts⟩:=t
 have hk:=h.kind
 refine⟨hk.1,fun e=>?_,fun e=>?_,fun e=>?_,hk.2⟩<;>simp only[Tm.k] at e<;>subst e
 · exact h.var.2.2.2
 · have:=(h.own (by decide)).1
   simp [cR] at this
   simp only[Tm.n];omega
 · have:=(h.own (by decide)).1
   simp [cR] at this
   exact(CO this.1.2).2
theorem R6{N:Int}{t:Tm}(h:j1 N t){x:Tm}{l:List Tm}(e:t.ts=x::l):j1 N x:=by
 have h1:t.k≠1:=fun hk=>by have:=(yI h).2.1 hk;rw[e] at this;cases this
 exact aD5 N t h1 h x (by rw[e];simp)
theorem RG{N:Int}{t:Tm}(h:j1 N t):gK t=match t.ts with
 | []=>⟨#[]⟩
 | x::_=>mK x:=by
 unfold gK
 by_cases h1:t.k=1
 · rw[aU h1,(yI h).2.1 h1]
 · rw[aS h1]
   try rfl
abbrev y7:=zi aZ (zi b7 (zi cE bH))
theorem FE{N:Int}{t:Tm}(ht:j1 N t)(st:aA):aD prog 173 [t.av] st (fun r st'=>r=.str (gK t)∧st'=st):=by
 refine aD.drop ?_
 rw[RG ht]
 have hx:=@R6 N t ht
 obtain⟨k,n,s,ts⟩:=t
 simp only[Tm.ts] at hx ⊢
 rw[a6]
 refine wF [1000000] 1 func173 ntmps173 rfl rfl ?_
 intro _
 simp only[aG,aB,seval,y7]
 refine aW (fun h=>?_) (fun h=>?_)
 · have h':ts= []:=mY (by simp at h;simp [h])
   subst h'
   simp only[aB,seval]
   first | exact aH.refl _ | exact⟨aH.refl _,rfl⟩
 cases ts with
 | nil=>simp at h
 | cons x l=>
  obtain⟨hk,h1,h2,h3,h4⟩:=yI (hx rfl)
  obtain⟨xk,xn,xs,xt⟩:=x
  simp only[Tm.k,Tm.ts,Tm.n,Tm.s] at hk h1 h2 h3 h4
  have hat:gZ prog 34 (.slice ((Tm.mk xk xn xs xt).av::l.map Tm.av)) (.int .i64 0)=some (.pptr (.agg [.int .i64 xk,.int .i64 xn,.str xs,.slice (xt.map Tm.av)])):=by
   rw[←a6]
   exact cJ (av:=Tm.av) (l:=.mk xk xn xs xt::l) (i:=0) cS rfl (aR _)
  have hu:mK (.mk xk xn xs xt)=if xk=1 then⟨#[]⟩ else if xk=2 then gN xn else xs++⟨#[47]⟩++eO 20 xt.length ⟨#[]⟩:=rfl
  simp only
  rw[hu]
  simp only[hat,aB,↓bG,seval,y7]
  refine aW (fun h=>?_) (fun h=>?_)
  · rw[aU (by simpa using h)]
    simp only[aB,seval]
    first | exact aH.refl _ | exact⟨aH.refl _,rfl⟩
  have h5:xk≠1:=by simpa using h
  rw[aS h5]
  simp only[aB,seval]
  refine aW (fun h=>?_) (fun h=>?_)
  · have h6:xk=2:=by simpa using h
    rw[aU h6]
    simp only[aB,seval,y7]
    refine(E3 xn (h2 h6).1 (h2 h6).2 _).to ?_
    simp only[aB,seval]
    first | exact aH.refl _ | exact⟨aH.refl _,rfl⟩
  have h6:xk≠2:=by simpa using h
  rw[aS h6]
  have hs:=h3 (by omega)
  have hm:maxLen=9223372036854775807:=by rfl
  have hs1:xs.size+(⟨#[47]⟩:ByteArray).size≤maxLen:=by show xs.size+1≤_;omega
  have hs2:(xs++(⟨#[47]⟩:ByteArray)).size+(eO 20 xt.length ⟨#[]⟩).size≤maxLen:=by
   have:=oL 20 xt.length ⟨#[]⟩
   have h0:(⟨#[]⟩:ByteArray).size=0:=rfl
   rw[bU]
   show xs.size+1+_≤_
   omega
  simp only[aB,seval]
  refine w8 mixed (by decide +kernel) (by decide +kernel) ?_
  simp only[aG,hs1,↓reduceIte,aB,seval,y7]
  refine eV (A6 xt.length (by omega) _) ?_
  simp only[hs2,↓reduceIte,aB,seval]
  first | exact aH.refl _ | exact⟨aH.refl _,rfl⟩
theorem W0(a b:ByteArray)(st:aA):aD prog 172 [.str a,.str b] st (fun r st'=>r=.bool (nP a b)∧st'=st):=by
 unfold nP
 refine wF [1000000] 2 func172 ntmps172 rfl rfl ?_
 intro _
 simp only[aB,seval]
 refine cU (fun h=>?_) (fun h=>?_)
 case refine_2=>
  have h':decide (a=⟨#[]⟩)=true:=by simpa using h
  simp only[h,aB,seval]
  try simp []
 have h1:decide (a=⟨#[]⟩)=false:=by simpa using h
 simp only[h,aB,seval]
 refine cU (fun h=>?_) (fun h=>?_)
 case refine_2=>
  have h':decide (b=⟨#[]⟩)=true:=by simpa using h
  simp only[h,aB,seval]
  try simp []
 have h2:decide (b=⟨#[]⟩)=false:=by simpa using h
 simp only[h,aB,seval]
 try simp [h1,h2]
theorem aFD{f:Nat→Bool}{l:List Nat}{i x:Nat}(hx:l[i]?=some x):(l.take (i+1)).filter f=(l.take i).filter f++(if f x=true then[x] else[]):=by
 rw[gW,hx,AB]
 congr 1
 by_cases h:f x=true
 · rw[aU h];simp [h]
 · rw[aS h];simp [h]
abbrev s9:=zi aZ (zi b7 (zi fV (zi hQ (zi bH hO))))
theorem YL{p:List Cl}(hp:∀c∈p,mV c∧c.2.length≤6)(hpl:p.length≤1048576){N:Int}{t:Tm}(ht:j1 N t)(st:aA):aD prog 98 [.slice (p.map a7),t.av] st (fun r st'=>r=.slice ((j3 p t (iE p t)).map nv)∧st'=st):=by
 refine aD.done ?_
 have QY:=fun st=>YD p t hpl st
 have hk:=fun st=>FE ht st
 have hlt:∀i∈iE p t,i<p.length:=fun i hi=>by unfold iE at hi;exact rA.1 (wJ.1 hi).1
 have hln:(iE p t).length≤p.length:=by have:=uQ p t p.length;rwa [←uP] at this
 unfold j3
 generalize hkt:gK t=kt at *
 generalize iE p t=L at *
 obtain⟨tk,tn,ts',tts⟩:=t
 simp only[a6] at QY hk ⊢
 refine wF [1000000] 2 func98 ntmps98 rfl rfl ?_
 intro _
 simp only[aB,seval,s9]
 refine(QY _).to ?_
 simp only[aB,seval]
 refine zY (σ:=Unit) [1000000] [0,3,4,6] L 1 5 (fun i _=>((L.take i).filter (kN p kt)).map nv) (fun _ _=>True) (fun i _=>[(7,.int .i64 i)]) (fun _ _=>st) (fun i _ _ e he=>by simp only[fN] at he;obtain⟨t,_,rfl⟩:=he;exact⟨rfl,rfl⟩) (by decide +kernel) ⟨(),0,trivial,fun h=>absurd rfl h,aL.mk (by simp only[kJ,k9,List.filter_nil,bF,aB,↓bG,seval])⟩ (fun i x s b hx aH3 b9 hdr hinv hb=>?_) (fun s b hge hinv=>?_)
 case refine_2=>
  simp only[hge,dQ,j5,r7,BV,nO,fZ,aG,aB,seval,s9]
  exact⟨rfl,aH.refl _⟩
 have hw:=bO (n:=(i:Int)+1)
 have hst:=aFD (f:=kN p kt) hx
 obtain⟨c,hc⟩:∃c,p[x]?=some c:=⟨_,eA (hlt x (c8 hx))⟩
 have hat:=cJ (av:=a7) (P:=prog) j4 hc (jC c)
 have BZ:=cJ (av:=nv) (P:=prog) jD hx rfl
 have hck:=fun st=>FE (hp c (c8 hc)).1.head st
 have hF:kN p kt x=nP (gK c.1) kt:=by unfold kN;rw[hc]
 obtain⟨⟨k,n,s',ts⟩,bd⟩:=c
 rw[dO] at hat
 simp only[a6] at hck
 generalize gK (Tm.mk k n s' ts)=kc at *
 simp only[nv] at BZ
 rw[hF] at hst
 have hfl:((L.take i).filter (kN p kt)).length≤i:=jM (List.length_filter_le _ _) (by rw[dZ];omega)
 simp only[b9,aG,aB,seval,s9]
 refine w8 mixed (by decide +kernel) (by decide +kernel) ?_
 simp only[hat,BZ,aB,seval,s9]
 refine eV (hck _) ?_
 simp only[aB,seval,s9]
 refine eV (hk _) ?_
 simp only[aB,seval]
 refine eV (W0 kc kt _) ?_
 simp only[aB,seval]
 refine aW (fun h=>?_) (fun h=>?_)
 · rw[aU h] at hst
   simp only[BZ,aB,seval,s9]
   refine eH jD xL uM rfl rfl (eR rfl rfl) (yG _) hb (by simp only[aG,bD,bN];omega) (by simp only[aG,bD,bN];omega) (fun b' hb'=>?_)
   rw[show ∀l:List Nat,l.map nv++ [AV.int .i64 (x:Int)]=(l++ [x]).map nv from fun l=>by simp [nv],←hst] at hb' ⊢
   simp only[hw,aB,seval]
   exact⟨(),b',hb',aL.mk (by simp only[aB,seval])⟩
 · rw[aS (by simp [h]),kF] at hst
   rw[←hst] at hb ⊢
   simp only[hw,aB,seval]
   exact⟨(),b,hb,aL.mk (by simp only[aB,seval])⟩
abbrev yY:=zi aZ (zi b7 (zi cE bH))
theorem EV{N:Int}{t:Tm}(ht:j1 N t)(st:aA)(hT:st kR=some mN):aD prog 159 [t.av] st (fun r st'=>r=.str (gK t)∧st'=st):=by
 refine aD.drop ?_
 rw[RG ht]
 have hx:=@R6 N t ht
 obtain⟨k,n,s,ts⟩:=t
 simp only[Tm.ts] at hx ⊢
 rw[a6]
 refine wF [1000000] 1 func159 ntmps159 rfl rfl ?_
 intro _
 simp only[aG,aB,seval,yY]
 refine aW (fun h=>?_) (fun h=>?_)
 · have h':ts= []:=mY (by simp at h;simp [h])
   subst h'
   simp only[aB,seval]
   first | exact aH.refl _ | exact⟨aH.refl _,rfl⟩
 cases ts with
 | nil=>simp at h
 | cons x l=>
  obtain⟨hk,h1,h2,h3,h4⟩:=yI (hx rfl)
  obtain⟨xk,xn,xs,xt⟩:=x
  simp only[Tm.k,Tm.ts,Tm.n,Tm.s] at hk h1 h2 h3 h4
  have hat:gZ prog 34 (.slice ((Tm.mk xk xn xs xt).av::l.map Tm.av)) (.int .i64 0)=some (.pptr (.agg [.int .i64 xk,.int .i64 xn,.str xs,.slice (xt.map Tm.av)])):=by
   rw[←a6]
   exact cJ (av:=Tm.av) (l:=.mk xk xn xs xt::l) (i:=0) cS rfl (aR _)
  have hdx:gN (xt.length:Int)=eO 20 xt.length ⟨#[]⟩:=by unfold gN;rw[aS (by omega),jZ]
  have hu:mK (.mk xk xn xs xt)=if xk=1 then⟨#[]⟩ else if xk=2 then gN xn else xs++⟨#[47]⟩++eO 20 xt.length ⟨#[]⟩:=rfl
  simp only
  rw[hu]
  simp only[hat,aB,↓bG,seval,yY]
  refine aW (fun h=>?_) (fun h=>?_)
  · rw[aU (by simpa using h)]
    simp only[aB,seval]
    first | exact aH.refl _ | exact⟨aH.refl _,rfl⟩
  have h5:xk≠1:=by simpa using h
  rw[aS h5]
  simp only[aB,seval]
  refine aW (fun h=>?_) (fun h=>?_)
  · have h6:xk=2:=by simpa using h
    rw[aU h6]
    simp only[aB,seval,yY]
    refine(RS xn (h2 h6).1 (h2 h6).2 _ hT).to ?_
    simp only[aB,seval]
    first | exact aH.refl _ | exact⟨aH.refl _,rfl⟩
  have h6:xk≠2:=by simpa using h
  rw[aS h6]
  have hs:=h3 (by omega)
  have hm:maxLen=9223372036854775807:=by rfl
  have hs1:xs.size+(⟨#[47]⟩:ByteArray).size≤maxLen:=by show xs.size+1≤_;omega
  have hs2:(xs++(⟨#[47]⟩:ByteArray)).size+(eO 20 xt.length ⟨#[]⟩).size≤maxLen:=by
   have:=oL 20 xt.length ⟨#[]⟩
   have h0:(⟨#[]⟩:ByteArray).size=0:=rfl
   rw[bU]
   show xs.size+1+_≤_
   omega
  simp only[aB,seval]
  refine w8 mixed (by decide +kernel) (by decide +kernel) ?_
  simp only[aG,hs1,↓reduceIte,aB,seval,yY]
  refine eV (RS xt.length (by omega) (by omega) _ hT) ?_
  simp only[hs2,hdx,↓reduceIte,aB,seval]
  first | exact aH.refl _ | exact⟨aH.refl _,rfl⟩
theorem XC(a b:ByteArray)(st:aA):aD prog 163 [.str a,.str b] st (fun r st'=>r=.bool (nP a b)∧st'=st):=by
 unfold nP
 refine wF [1000000] 2 func163 ntmps163 rfl rfl ?_
 intro _
 simp only[aB,seval]
 refine cU (fun h=>?_) (fun h=>?_)
 case refine_2=>
  have h':decide (a=⟨#[]⟩)=true:=by simpa using h
  simp only[h,aB,seval]
  try simp []
 have h1:decide (a=⟨#[]⟩)=false:=by simpa using h
 simp only[h,aB,seval]
 refine cU (fun h=>?_) (fun h=>?_)
 case refine_2=>
  have h':decide (b=⟨#[]⟩)=true:=by simpa using h
  simp only[h,aB,seval]
  try simp []
 have h2:decide (b=⟨#[]⟩)=false:=by simpa using h
 simp only[h,aB,seval]
 try simp [h1,h2]
theorem C3{h:aN}{st:aA}{b:Nat}{cs cs':List AV}(hb:st b=some (.cells cs)):aX h st h (st.aC b (.cells cs')):=
 ⟨dJ _,fun y _ e=>⟨rfl,by
  have hne:y≠b:=by rintro rfl;rw[hb] at e;cases e
  rw[aA.aV _ _ hne];exact e⟩,fun _ c _ _ e=>⟨c,e,rfl⟩⟩
theorem FQ{h:aN}{b:Nat}:∀ {vs:List Value} {off:Nat} (k:Nat),cN h b off vs→cN h b off (vs.take k)
 | _,_,0,_=>by simp [cN]
 | [],_,k+1,_=>by simp [cN]
 | v::vs,off,k+1,x=>⟨x.1,FQ k x.2⟩
theorem aEZ{h:aN}{st:aA}{b:Nat}{cs:List AV}(k:Nat)(hb:st b=some (.cells cs))(S:bQ h st):bQ h (st.aC b (.cells (cs.take k))):=fun y o e=>by
 have T:=C3 (h:=h) (cs':=cs.take k) hb
 by_cases hy:y=b
 · subst hy
   rw[aA.aP] at e
   cases e
   obtain⟨h1,c,t,e1,e2,vs,e3,e4⟩:=S y _ hb
   exact⟨h1,c,t,e1,jM (by rw[dZ];omega) e2,vs.take k,FQ k e3,aJ.mono T _ _ (e4.take k)⟩
 · rw[aA.aV _ _ hy] at e
   obtain⟨h1,h2⟩:=S y o e
   exact⟨h1,iC.mono T rfl h2⟩
theorem aD.cut{P:Program}{g:FuncId}{args:List AV}{st:aA}{Q:AV→aA→Prop}(x:aD P g args st (fun r st'=>∃b cs k,st' b=some (.cells cs)∧Q r (st'.aC b (.cells (cs.take k))))):aD P g args st Q:=
 x.iA fun r st' ⟨b,cs,k,h1,h2⟩=>⟨r,_,fun h S=>⟨aEZ k h1 S,C3 h1⟩,fun h v S y=>y.mono (C3 h1),h2⟩
theorem RD{st:aA}{b i:Nat}{cs:List AV}{x:AV}(hs:st b=some (.cells cs))(hx:cs[i]?=some x)(ha:x.isAgg=false):d6 prog st 3 (.ptr b i)=some x:=by
 simp [d6,tI_3,hs,sub,hx,ha]
abbrev aFS:=zi aZ fV
theorem aDZ(l:List Nat)(g:FuncId)(bX:List AV)(p:Nat→Bool)(b:Nat)(cs:List AV)(h9:l.length≤1048576)(st:aA)(hb:st b=some (.cells cs))(hcs:∀(i x:Nat),l[i]?=some x→cs[i]?=some (nv x))(hc:∀x∈l,aD prog g ([nv x]++bX) st (fun r st'=>r=.bool (p x)∧st'=st)) :
 aD prog 250 [.mslice b 0 l.length 1,.func g bX] st (fun r st'=>r=.int .i64 (iG p l 0)∧st'=st):=by
 refine wF [1000000] 2 func250 ntmps250 rfl rfl ?_
 intro _
 simp only[aB,seval,aFS]
 refine fW (σ:=Unit) [1000000] [0,1,7] l (fun i _=>iG p (l.drop i) i=iG p l 0) (fun i _=>[(8,.int .i64 i)]) (fun _ _=>st) (by decide +kernel) ⟨(),rfl,aL.mk (by simp only[aB,↓bG,seval])⟩ (fun i x _ hx hlt b9 hdr hinv=>?_) (fun _ hge hinv=>?_)
 case refine_2=>
  simp only[hge,aB,seval]
  rw[←hinv,wE]
  try rfl
 rw[hdr,iG] at hinv
 have hw:=bO (n:=(i:Int)+1)
 have hat:=B4 (P:=prog) (t:=26) (b:=b) (w:=1) jD hlt
 rw[Nat.mul_one] at hat
 have hld:=RD hb (hcs i x hx) rfl
 have hca:=hc x (c8 hx)
 simp only[nv,dM,dB] at hld hca
 simp only[b9,hat,hld,aB,seval]
 refine(hca).to ?_
 simp only[aB,seval]
 refine aW (fun h=>?_) (fun h=>?_)
 · rw[aU h] at hinv
   simp only[hinv,aB,seval]
 · rw[aS (by simp [h])] at hinv
   simp only[hw,aB,seval]
   exact⟨(),by rw[←hinv],aL.mk (by simp only[aB,seval])⟩
end Go.AW

namespace Go.AW
open Go.Proofs.Tryz
open Go.Shelf
set_option linter.unusedSimpArgs false
set_option linter.unusedVariables false
set_option maxRecDepth 100000
def FW:Go.Shelf.Ren:=⟨fun | 15=>161 | n=>n,fun | 22=>26 | 3=>3 | 4=>4 | n=>n,fun | n=>n⟩
theorem xI:Go.Proofs.Lays2.n15 prog FW:={
 mixed:=by kernel_rfl
 f15:=func161.trans (fR some (by kernel_rfl))
 t3:=uU3
 a3:=isAgg3
 z3:=sizeOf3
 v3:=zeroValue3
 t4:=uU4
 a4:=isAgg4
 z4:=sizeOf4
 v4:=zeroValue4
 t22:=aGG
 a22:=isAgg26
 z22:=sizeOf26
 v22:=zeroValue26
 i3:=by kernel_rfl }
def qA(i:Nat):Value:=.int .i64 (i:Int)
theorem D4{h:aN}{st:aA}{b:Nat}:∀ {l:List Nat} {off:Nat},bY h st b off (l.map nv)→∀(j x:Nat),l[j]?=some x→cellAt h b (off+j)=some (qA x)
 | [],_,_,j,x,e=>by simp at e
 | a::l,off,v,0,x,e=>by
  simp only[List.getElem?_cons_zero,Option.some.injEq] at e
  subst e
  obtain⟨⟨cs,c1,c2,c3⟩,_⟩:=v
  have c3:cs= [qA a]:=c3
  subst c3
  exact c1.1
 | a::l,off,v,j+1,x,e=>by
  rw[List.getElem?_cons_succ] at e
  have:=D4 v.2 j x e
  rwa [show(nv a).width=1 from rfl,tL,Nat.add_comm 1 j] at this
theorem D2{h:aN}{st:aA}:∀l:List Nat,aJ h st (l.map nv) (l.map qA)
 | []=>rfl
 | a::l=>⟨qA a,l.map qA,rfl,rfl,D2 l⟩
theorem aDU(l:List Nat)(hl:l≠[])(h9:l.length≤1048576)(st:aA):aD prog 161 [.slice (l.map nv)] st (fun r st'=>∃b,st b=none∧r=.mslice b 0 l.length 1∧st'=st.aC b (.cells (l.map nv))):=by
 refine⟨⟨_,func161,rfl,by kernel_rfl⟩,fun w vs S V=>?_⟩
 obtain⟨v,r,rfl,v1,v2⟩:=V
 obtain rfl:r= []:=v2
 have hne:l.map nv≠[]:=by simpa using hl
 obtain⟨hag,hv⟩:=v1
 unfold VC at hv
 rcases hv with ⟨_,h⟩ | ⟨b,off,cap,e1,e2,e3,e4,e5,e6,e7⟩
 · exact absurd h hne
 obtain rfl:v=.slice (some ⟨b,off,none⟩) (l.map nv).length cap:=by
  cases v<;>first | exact absurd hag Bool.false_ne_true | simp_all [Value.cells]
 rw[aG]
 have lK:∀j,j<(l.map fun i:Nat=>(i:Int)).length→w.cell? ⟨b,off+j,none⟩=some (.int .i64 ((l.map fun i:Nat=>(i:Int)).getD j 0)):=fun j hj=>by
  rw[aG] at hj
  have h1:=D4 e7 j l[j] (eA hj)
  unfold cellAt at h1
  unfold World.cell?
  simp only[DY,q8,eA hj,l6,tP]
  split at h1
  · rename_i hb;rw[hb];exact h1
  · cases h1
 refine(Go.Proofs.Any.slices_Clone_int xI b off l.length cap (l.map fun i:Nat=>(i:Int)) w (by rw[aG];omega) (by omega) lK).mono ?_
 rintro e w' ⟨v',rfl,⟨_,ho⟩,hnn,hB⟩
 rcases ho with ⟨h,_⟩ | ⟨g,BG,cur,rfl,h1,h2,h3,h4,h5,h6⟩
 · exact absurd h hnn
 have X:Ext w.heap w'.heap:=⟨hB.size,hB.block⟩
 have hg:st g=none:=by
  cases hs:st g with
  | none=>rfl
  | some o=>exact absurd (S g o hs).1 (by omega)
 have hgl:g<w'.heap.size:=(qZ.1 h2).1
 have T:aX w.heap st w'.heap (st.aC g (.cells (l.map nv))):=⟨hB.size,fun y hy hn=>⟨hB.block y hy,by rw[aA.aV _ _ (by omega)];exact hn⟩,(X.step st).shape⟩
 have h7:(l.map fun i:Nat=>(i:Int)).take l.length=l.map fun i:Nat=>(i:Int):=kH (by rw[aG];omega)
 rw[Nat.mul_one] at h5 h6
 rw[h7,List.map_map] at h6
 have hvs:(l.map qA)=(cur.toList.drop 0).take l.length:=by rw[lZ,h6];try rfl
 refine⟨_,.mslice g 0 l.length 1,st.aC g (.cells (l.map nv)),rfl,⟨rfl,BG,rfl,h3,h4,cur,_,h2,by omega⟩,fun y o e=>?_,T,⟨hB.os,hB.tape,hB.output⟩,g,hg,rfl,rfl⟩
 by_cases hy:y=g
 · subst hy
   rw[aA.aP] at e
   cases e
   exact⟨hgl,cur,_,h2,by rw[aG];omega,l.map qA,by rw[hvs];exact pT h2 _ 0 (by omega),D2 l⟩
 · rw[aA.aV _ _ hy] at e
   obtain⟨p1,p2⟩:=S y o e
   exact⟨m6 p1 hB.size,iC.mono T (hB.block y p1) p2⟩
end Go.AW

namespace Go.AW
open Go.Proofs.Tryz
theorem ZF{P:Program}{t:TypeId}{ag:Bool}{sz b off n:Nat}{zs cs:List AV}{st:aA}{K:AV→aA→Prop}(hI:eI P t=some (ag,sz))(hZ:eZ P t=some zs)(h0:sz≠0)(hz:zs.length=sz)(hst:zs.all AV.storable=true)(hb:st b=some (.cells cs))(eK:off+n*sz≤cs.length)
 (hK:K (.tup []) (st.aC b (.cells (aF cs off (fT zs n))))):nA P t st (.mslice b off n sz) K:=by
 unfold nA
 rw[hI,hZ]
 simp only[hb]
 exact⟨trivial,h0,hz,hst,eK,hK⟩
theorem aEV{cs:List AV}{i:Nat}{x:List AV}(h:i≤cs.length):(aF cs i x).take i=cs.take i:=by
 unfold aF
 rw[List.append_assoc,List.take_left' (by rw[dZ];omega)]
theorem aEW{cs:List AV}{i:Nat}{x:AV}(h:i<cs.length):(aF cs i [x]).take (i+1)=cs.take i++ [x]:=by
 unfold aF
 rw[List.take_left' (by rw[dI,dZ,bD,bN];omega)]
theorem aEU{cs:List AV}{i:Nat}{x:List AV}(h:i+x.length≤cs.length):(aF cs i x).length=cs.length:=by
 unfold aF
 simp only[dI,dZ,kG]
 omega
theorem set_drop{cs:List AV}{i j:Nat}{x:AV}(h:i<cs.length)(hj:i<j):(aF cs i [x]).drop j=cs.drop j:=by
 unfold aF
 rw[List.drop_append,wD (by rw[dI,dZ,bD,bN];omega),dB,tH]
 congr 1
 rw[dI,dZ,bD,bN]
 omega
structure DW (l:List Nat) (p:Nat→Bool) (i j:Nat) (W:List AV):Prop where
 lt:i<j
 le:j≤l.length
 len:W.length=l.length
 head:W.take i=((l.take j).filter fun x=> !p x).map nv
 hlen:i=((l.take j).filter fun x=> !p x).length
 tail:W.drop j=(l.drop j).map nv
abbrev TK:=zi aZ (zi cB fV)
theorem aDX(l:List Nat)(g:FuncId)(bX:List AV)(p:Nat→Bool)(b:Nat)(h9:l.length≤1048576)(st:aA)(hb:st b=some (.cells (l.map nv)))(hc:∀x∈l,∀cs,aD prog g ([nv x]++bX) (st.aC b (.cells cs)) (fun r st'=>r=.bool (p x)∧st'=st.aC b (.cells cs))) :
 aD prog 160 [.mslice b 0 l.length 1,.func g bX] st (fun r st'=>∃W,r=.mslice b 0 (l.filter fun x=> !p x).length 1∧st'=st.aC b (.cells W)∧W.take (l.filter fun x=> !p x).length=(l.filter fun x=> !p x).map nv):=by
 have hst:st.aC b (.cells (l.map nv))=st:=by
  funext y
  simp only[aA.aC]
  split
  · rename_i h;rw[h,hb]
  · rfl
 have aB6:=aDZ l g bX p b (l.map nv) h9 st hb (fun i x h=>by simp [h]) (fun x hx=>by have:=hc x hx (l.map nv);rwa [hst] at this)
 refine wF [1000000] 2 func160 ntmps160 rfl rfl ?_
 intro _
 simp only[aB,seval]
 refine(aB6).to ?_
 simp only[aB,seval]
 rcases yB p l 0 (by omega) with ⟨h1,h2⟩ | ⟨j0,x0,h1,h2,h3,h4,h5⟩
 · have cX:(l.filter fun x=> !p x)=l:=List.filter_eq_self.2 fun a ha=>by
    have:=List.any_eq_false.1 h2 a ha
    simpa using this
   rw[h1,cX]
   simp only[aB,seval]
   exact⟨l.map nv,hst.symm,by rw[kH (by rw[aG];exact dJ _)]⟩
 have hj:j0<l.length:=(fY.1 h2).1
 have hf0:((l.take (j0+1)).filter fun x=> !p x)=l.take j0:=by
  rw[gW,h2,AB]
  simp only[Option.toList_some,List.filter_cons,h3,fX,fJ,cP,List.filter_nil,kF]
  refine List.filter_eq_self.2 fun a ha=>?_
  obtain⟨k,hk⟩:=q9 ha
  rw[List.getElem?_take] at hk
  split at hk
  · rename_i h;rw[h5 k a h hk];try rfl
  · cases hk
 have hI0:DW l p j0 (j0+1) (l.map nv):=⟨by omega,by omega,by rw[aG],by rw[hf0,List.map_take],by rw[hf0,dZ];omega,by rw[List.map_drop]⟩
 rw[h1,Int.zero_add]
 have hn1:((j0:Int)= -1)=False:=bC (by omega)
 have hw0:=bO (n:=(j0:Int)+1)
 simp only[hn1,hw0,bB,aB,seval]
 refine fH (σ:=Nat×Nat×List AV) [1000000] [0,1,4] (fun x=>DW l p x.1 x.2.1 x.2.2) (fun x=>[(5,.int .i64 (x.1:Int)),(6,.int .i64 (x.2.1:Int))]) (fun x=>st.aC b (.cells x.2.2)) (fun x=>l.length - x.2.1) (by decide +kernel) ⟨(j0,j0+1,l.map nv),hI0,(by simp only[hst];exact aL.mk (by simp only[aB,seval]))⟩ ?_
 rintro⟨i,j,W⟩ ⟨i1,i2,i3,i4,i5,i6⟩
 simp only at i1 i2 i3 i4 i5 i6
 simp only
 simp only[aB,seval,TK]
 refine aW (fun h=>?_) (fun h=>?_)
 · have hlt:j<l.length:=by simp at h;omega
   obtain⟨x,hx⟩:∃x,l[j]?=some x:=⟨_,eA hlt⟩
   have hWj:W[j]?=some (nv x):=by
    have e:(W.drop j)[0]?=((l.drop j).map nv)[0]?:=by rw[i6]
    simpa [hx] using e
   have hat:=B4 (P:=prog) (t:=26) (b:=b) (w:=1) jD hlt
   have QR:=B4 (P:=prog) (t:=26) (b:=b) (w:=1) (i:=i) (len:=l.length) jD (by omega)
   rw[Nat.mul_one] at hat QR
   have hld:=RD (st:=st.aC b (.cells W)) (aA.aP _ _ _) hWj rfl
   have hca:=hc x (c8 hx) W
   simp only[nv,dM,dB] at hld hca
   have hw:=bO (n:=(j:Int)+1)
   have hw2:=bO (n:=(i:Int)+1)
   simp only[hat,hld,aB,seval]
   refine(hca).to ?_
   simp only[aB,seval]
   have htl:(l.take (j+1)).filter (fun x=> !p x)=(l.take j).filter (fun x=> !p x)++(if p x=false then[x] else[]):=by
    rw[gW,hx,AB]
    congr 1
    cases hp:p x<;>simp [hp]
   have hdr:∀V:List AV,V.drop j=W.drop j∨V.drop (j+1)=W.drop (j+1)→V.drop (j+1)=(l.drop (j+1)).map nv:=fun V hV=>by
    have e:W.drop (j+1)=(l.drop (j+1)).map nv:=by rw[←tH,i6,←List.map_drop,tH]
    rcases hV with hV | hV
    · rw[←tH,hV,tH,e]
    · rw[hV,e]
   refine aW (fun h7=>?_) (fun h7=>?_)
   · have hp:p x=false:=by simpa using h7
     rw[aU hp] at htl
     simp only[QR,hw,hw2,aA.aP,bM,aB,seval,TK]
     have hil:i<W.length:=by omega
     refine⟨by omega,(i+1,j+1,aF W i [nv x]),by simp only;omega,⟨by simp only;omega,by simp only;omega,by rw[aEU (by simp only[bD,bN];omega)];exact i3,by simp only;rw[aEW hil,htl,i4,List.map_append];try rfl,by simp only;rw[htl,dI,bD,bN,←i5],hdr _ (.inr (set_drop hil (by omega)))⟩,aL.mk (by simp only[aB,seval])⟩
   · have hp:p x=true:=by simpa using h7
     rw[aS (by simp [hp]),kF] at htl
     simp only[hw,aB,seval]
     refine⟨(i,j+1,W),by simp only;omega,⟨by simp only;omega,by simp only;omega,i3,by simp only;rw[htl];exact i4,by simp only;rw[htl];exact i5,hdr W (.inl rfl)⟩,aL.mk (by simp only[aB,seval])⟩
 · have hge:j=l.length:=by simp at h;omega
   subst hge
   rw[fZ] at i4 i5
   have hsl:∀(φ:AF) (y:Operand),φ.eval y=.int .i64 (i:Int)→i8 prog φ 26 (.mslice b 0 l.length 1) (some y) none none=some (.mslice b i (l.length - i) 1):=fun φ y hy=>by
    unfold i8
    rw[aS (by simp [qB])]
    simp only[nE,jD,dN,hy]
    rw[aU (by constructor<;>omega)]
    simp only[jZ]
    by_cases h0:i=0
    · simp [h0]
    · simp [h0,i1]
   have hsh:∀(φ:AF) (y:Operand),φ.eval y=.int .i64 (i:Int)→i8 prog φ 26 (.mslice b 0 l.length 1) none (some y) none=some (.mslice b 0 i 1):=fun φ y hy=>by
    unfold i8
    rw[aS (by simp [qB])]
    simp only[nE,jD,dN,hy]
    rw[aU (by constructor<;>omega)]
    simp
   simp only[hsl,aB,seval]
   refine ZF jD uM (by decide) rfl rfl (aA.aP _ _ _) (by omega) ?_
   rw[bM]
   simp only[hsh,aB,seval]
   refine⟨aF W i (fT [.int .i64 0] (l.length - i)),by rw[←i5],rfl,?_⟩
   rw[←i5,aEV (by omega)]
   exact i4
abbrev TL:=zi aZ (zi cB (zi b7 (zi hQ (zi bH hO))))
theorem W8{p:List Cl}(hp:∀c∈p,mV c∧c.2.length≤6)(key:ByteArray)(x:Nat)(hx:x<p.length)(st:aA)(hT:st kR=some mN):aD prog 162 [nv x,.pptr (.slice (p.map a7)),.pptr (.str key)] st (fun r st'=>r=.bool (!kN p key x)∧st'=st):=by
 obtain⟨c,hc⟩:∃c,p[x]?=some c:=⟨_,eA hx⟩
 have hat:=cJ (av:=a7) (P:=prog) j4 hc (jC c)
 have hck:=EV (hp c (c8 hc)).1.head st hT
 have hF:kN p key x=nP (gK c.1) key:=by unfold kN;rw[hc]
 rw[hF]
 obtain⟨⟨k,n,s',ts⟩,bd⟩:=c
 rw[dO] at hat
 simp only[a6] at hck
 simp only[nv]
 refine wF [1000000] 3 func162 ntmps162 rfl rfl ?_
 intro _
 simp only[aB,seval]
 refine w8 mixed (by decide +kernel) (by decide +kernel) ?_
 simp only[hat,aB,seval,TL]
 refine eV hck ?_
 simp only[aB,seval,TL]
 refine eV (XC _ key _) ?_
 simp only[aB,seval]
abbrev TM:=zi b7 (zi fV (zi hQ bH))
theorem W7{p:List Cl}(hp:∀c∈p,mV c∧c.2.length≤6){N:Int}{t:Tm}(ht:j1 N t)(l:List Nat)(hl:l≠[])(hlt:∀i∈l,i<p.length)(h9:l.length≤1048576)(st:aA)(hT:st kR=some mN):aD prog 85 [.slice (p.map a7),.slice (l.map nv),t.av] st (fun r st'=>r=.slice ((j3 p t l).map nv)∧st'=st):=by
 refine aD.freeze (aD.cut ?_)
 have hk:=EV ht st hT
 have hcl:=aDU l hl h9 st
 have QU:(l.filter fun x=> !(!kN p (gK t) x))=j3 p t l:=by unfold j3;simp only[Bool.not_not]
 generalize hkt:gK t=key at *
 obtain⟨tk,tn,ts',tts⟩:=t
 simp only[a6] at hk ⊢
 refine wF [1000000] 3 func85 ntmps85 rfl rfl ?_
 intro _
 simp only[aB,seval,TM]
 refine(hk).to ?_
 simp only[aB,↓bG,seval,TM]
 refine(hcl).mono ?_
 rintro _ _ ⟨b,hb,rfl,rfl⟩
 simp only[aB,seval]
 have hb0:kR≠b:=by rintro rfl;rw[hT] at hb;cases hb
 have aBU:=aDX l _ [.pptr (.slice (p.map a7)),.pptr (.str key)] (fun i=> !kN p key i) b h9 (st.aC b (.cells (l.map nv))) (aA.aP _ _ _) (fun x hx cs=>W8 hp key x (hlt x hx) _ (by rw[bM,aA.aV _ _ hb0];exact hT))
 refine(aBU).mono ?_
 rintro _ _ ⟨W,rfl,rfl,hW⟩
 rw[QU] at hW ⊢
 simp only[aB,seval]
 have hfl:∀L:List Nat,(L.map nv).flatMap AV.cells=L.map nv:=fun L=>by
  induction L with
  | nil=>rfl
  | cons a L ih=>simp only[bT,wH,ih];rfl
 refine⟨b,W,_,aA.aP _ _ _,b,_,by rw[aA.aP,hW,hfl],fun e he=>?_,⟨1,yG _⟩,by simp [AV.fz],by rw[bM,aA.pV _ _ _ hb]⟩
 simp only[fN] at he
 obtain⟨_,_,rfl⟩:=he
 rfl
end Go.AW

namespace Go.AW
open Go.Proofs.Tryz
open Go.Shelf
set_option linter.unusedSimpArgs false
set_option linter.unusedVariables false
set_option maxRecDepth 100000
theorem aDV(st:aA):aD prog 161 [.slice []] st (fun r st'=>r=.slice []∧st'=st):=by
 refine⟨⟨_,func161,rfl,by kernel_rfl⟩,fun w vs S V=>?_⟩
 obtain⟨v,r,rfl,v1,v2⟩:=V
 obtain rfl:r= []:=v2
 have jQ:∀(e:Ending) (w':World),(∃v',e=.returned v'∧w'.ownsRow w.heap.size (FW.t 3) 1 v' 0 []∧v'≠.slice none 0 0∧RowKit.Below w.heap.size w w')→∃v r st',e=.returned v∧aE w'.heap st' r v∧bQ w'.heap st'∧aX w.heap st w'.heap st'∧c9 w w'∧r=.slice []∧st'=st:=by
  rintro e w' ⟨v',rfl,⟨_,ho⟩,hnn,hB⟩
  rcases ho with ⟨h,_⟩ | ⟨g,BG,cur,rfl,h1,h2,h3,h4,h5,h6⟩
  · exact absurd h hnn
  have X:Ext w.heap w'.heap:=⟨hB.size,hB.block⟩
  have hg:st g=none:=by
   cases hs:st g with
   | none=>rfl
   | some o=>exact absurd (S g o hs).1 (by omega)
  have hgl:g<w'.heap.size:=(qZ.1 h2).1
  exact⟨_,.slice [],st,rfl,⟨rfl,.inr ⟨g,0,BG,rfl,h3,h4,hg,hgl,⟨0,by simp⟩,trivial⟩⟩,S.ext X,X.step st,⟨hB.os,hB.tape,hB.output⟩,rfl,rfl⟩
 rcases v1.sY with ⟨⟨p,rfl⟩,_⟩ | ⟨b,off,cap,rfl,_⟩
 · cases p with
   | none=>
    refine(Go.Proofs.Any.slices_Clone_int_nil xI 0 0 w).mono ?_
    rintro e w' ⟨rfl,rfl⟩
    exact⟨_,.slice [],st,rfl,⟨rfl,.inl ⟨⟨none,rfl⟩,rfl⟩⟩,S,aX.refl _ _,⟨rfl,rfl,rfl⟩,rfl,rfl⟩
   | some a=>exact(Go.Proofs.Any.slices_Clone_int_zero xI a 0 w).mono jQ
 · exact(Go.Proofs.Any.slices_Clone_int_zero xI ⟨b,off,none⟩ cap w).mono jQ
abbrev aFI:=zi aZ fV
theorem aDY(g:FuncId)(bX:List AV)(st:aA):aD prog 250 [.slice [],.func g bX] st (fun r st'=>r=.int .i64 (-1)∧st'=st):=by
 refine wF [1000000] 2 func250 ntmps250 rfl rfl ?_
 intro _
 simp only[aB,seval,aFI]
 refine fH (σ:=Unit) [1000000] [0,1,7] (fun _=>True) (fun _=>[(4,.int .i64 0),(8,.int .i64 0)]) (fun _=>st) (fun _=>0) (by decide +kernel) ⟨(),trivial,aL.mk (by simp only[aB,seval])⟩ ?_
 intro _ _
 simp only[aB,seval]
theorem aDW(g:FuncId)(bX:List AV)(st:aA):aD prog 160 [.slice [],.func g bX] st (fun r st'=>r=.slice []∧st'=st):=by
 refine wF [1000000] 2 func160 ntmps160 rfl rfl ?_
 intro _
 simp only[aB,seval]
 refine(aDY g bX _).to ?_
 simp only[aB,seval]
abbrev yV:=zi aZ (zi b7 (zi cE bH))
theorem W6{t:Tm}(ht:Ng t)(st:aA)(hT:st kR=some mN):aD prog 159 [t.av] st (fun r st'=>(∃s:ByteArray,r=.str s)∧st'=st):=by
 obtain⟨k,n,s,ts⟩:=t
 rw[a6]
 refine wF [1000000] 1 func159 ntmps159 rfl rfl ?_
 intro ⟨⟨_,_,_,hlk,_⟩,_⟩
 simp only[aG,aB,seval,yV]
 refine aW (fun h=>?_) (fun h=>?_)
 · simp only[aB,seval]
   exact⟨_,rfl⟩
 cases ts with
 | nil=>simp at h
 | cons x l=>
  obtain⟨h1,h2,h3⟩:=ht.2.2 x (by simp [Tm.ts])
  obtain⟨hl,hsm⟩:=Tm.kT ht.1
  have hxs:=hsm x (by simp)
  obtain⟨xk,xn,xs,xt⟩:=x
  have hxl:=(Tm.kT hxs).1
  simp only[Tm.n,Tm.s] at h1 h2 h3
  have hat:gZ prog 34 (.slice ((Tm.mk xk xn xs xt).av::l.map Tm.av)) (.int .i64 0)=some (.pptr (.agg [.int .i64 xk,.int .i64 xn,.str xs,.slice (xt.map Tm.av)])):=by
   rw[←a6]
   exact cJ (av:=Tm.av) (l:=.mk xk xn xs xt::l) (i:=0) cS rfl (aR _)
  simp only[bT]
  simp only[hat,aB,↓bG,seval,yV]
  refine aW (fun h=>?_) (fun h=>?_)
  · simp only[aB,seval]
    exact⟨_,rfl⟩
  simp only[aB,seval]
  refine aW (fun h=>?_) (fun h=>?_)
  · simp only[aB,seval,yV]
    refine(RT xn h1 h2 _ hT).to ?_
    simp only[aB,seval]
    exact⟨_,rfl⟩
  have hm:maxLen=9223372036854775807:=by rfl
  have hs1:xs.size+(⟨#[47]⟩:ByteArray).size≤maxLen:=by show xs.size+1≤_;omega
  have hs2:(xs++(⟨#[47]⟩:ByteArray)).size+(yC (xt.length:Int)).size≤maxLen:=by
   have:=RF (n:=(xt.length:Int)) (by omega) (by omega)
   rw[bU]
   show xs.size+1+_≤_
   omega
  simp only[aB,seval]
  refine wP [(0,1),(3,1),(1,2),(2,1),(4,2),(5,1),(6,2),(7,1),(8,1)] [0,3,1,2,4,5,6,7,8] mixed ?_
  simp only[hs1,↓reduceIte,aG,aB,seval,yV]
  refine eV (RT (xt.length:Int) (by omega) (by omega) _ hT) ?_
  simp only[hs2,↓reduceIte,aB,seval]
  exact⟨_,rfl⟩
abbrev TA:=zi b7 (zi fV (zi hQ bH))
theorem W9(p:List Cl){t:Tm}(ht:Ng t)(st:aA)(hT:st kR=some mN):aD prog 85 [.slice (p.map a7),.slice [],t.av] st (fun r st'=>r=.slice []∧st'=st):=by
 have hk:=W6 ht st hT
 obtain⟨tk,tn,ts',tts⟩:=t
 simp only[a6] at hk ⊢
 refine wF [1000000] 3 func85 ntmps85 rfl rfl ?_
 intro _
 simp only[aB,seval,TA]
 refine(hk).mono ?_
 rintro _ _ ⟨⟨key,rfl⟩,rfl⟩
 simp only[aB,↓bG,seval,TA]
 refine(aDV _).to ?_
 simp only[aB,seval]
 refine(aDW _ _ _).to ?_
 simp only[aB,seval]
end Go.AW

namespace Go.AW
open Go.Proofs.Tryz
abbrev aIC:=zi aZ (zi cE (zi bH (zi aF5 aF6)))
abbrev aFT:=zi b7 (zi cE (zi bH DN))
theorem FG(k n:Int)(s:ByteArray)(ts:List Tm)(st:aA):aD prog 165 [(Tm.mk k n s ts).av] st (fun r st'=>r=.agg [.str s,.int .i64 (ts.length:Int)]∧st'=st):=by
 refine aD.done ?_
 simp only[a6]
 refine wF [1000000] 1 func165 ntmps165 rfl rfl ?_
 intro _
 simp only[aF,aG,aB,seval,aFT]
 intro b2 h2
 exact⟨by simp only[iJ,gR,iK,bT,bF],(aH.refl _).aC h2⟩
abbrev vO:=zi aZ (zi fV (zi hQ (zi bH (zi hO DN))))
theorem W5(p:List Cl)(t:Tm)(hp:p.length≤1048576)(st:aA):aD prog 164 [.slice (p.map a7),.agg [.str t.s,.int .i64 (t.ts.length:Int)]] st (fun r st'=>r=.slice ((iE p t).map nv)∧st'=st):=by
 rw[uP]
 refine aD.done ?_
 obtain⟨tk,tn,ts',tts⟩:=t
 simp only[Tm.s,Tm.ts]
 refine wF [1000000] 2 func164 ntmps164 rfl rfl ?_
 intro _
 simp only[aG,aB,seval,vO]
 refine zY (σ:=Unit) [1000000] [3,4,8,9] p 1 5 (fun i _=>((List.range i).filter (j6 p (.mk tk tn ts' tts))).map nv) (fun _ _=>True) (fun i _=>[(10,.int .i64 i)]) (fun _ _=>st) (fun i _ _ e he=>by simp only[fN] at he;obtain⟨t,_,rfl⟩:=he;exact⟨rfl,rfl⟩) (by decide +kernel) ⟨(),0,trivial,fun h=>absurd rfl h,aL.mk (by simp only[kJ,List.range_zero,List.filter_nil,bF,aB,↓bG,seval])⟩ (fun i x _ b hx hlt b9 hdr hinv hb=>?_) (fun _ b hge hinv=>?_)
 case refine_2=>
  simp only[hge,dQ,j5,r7,BV,nO,aB,seval]
  exact⟨rfl,aH.refl _⟩
 have hw:=bO (n:=(i:Int)+1)
 have hst:=QK p (.mk tk tn ts' tts) i
 have hln:=uQ p (.mk tk tn ts' tts) i
 have hat:=cJ (av:=a7) (P:=prog) j4 hx (jC x)
 obtain⟨⟨k,n,s',ts⟩,bd⟩:=x
 rw[dO] at hat
 have hP:j6 p (.mk tk tn ts' tts) i=(decide (s'=ts')&&decide ((ts.length:Int)=(tts.length:Int))):=by unfold j6;rw[hx];try rfl
 rw[hP] at hst
 have hpr:=fun st=>FG k n s' ts st
 have aBY:cI prog .eql 191 (.agg [.str s',.int .i64 (ts.length:Int)]) (.agg [.str ts',.int .i64 (tts.length:Int)])=some (.bool (decide (s'=ts')&&decide ((ts.length:Int)=(tts.length:Int)))):=by
  have h:xP prog 191=true:=by kernel_rfl
  simp only[cI,h,and_self,fD]
 simp only[a6] at hpr
 simp only[b9,hat,aB,↓bG,seval,vO]
 refine wP [(0,1),(1,2),(2,2),(3,2),(4,1)] [0,1,2,3,4] mixed ?_
 simp only[aB,seval,vO]
 refine eV (hpr _) ?_
 simp only[aBY,aB,seval,vO]
 refine aW (fun h2=>?_) (fun h2=>?_)
 · rw[aU h2] at hst
   simp only[aB,seval,vO]
   refine eH jD xL uM rfl rfl (eR rfl rfl) (yG _) hb (by simp only[aG,bD,bN];omega) (by simp only[aG,bD,bN];omega) (fun b' hb'=>?_)
   rw[show ∀l:List Nat,l.map nv++ [AV.int .i64 (i:Int)]=(l++ [i]).map nv from fun l=>by simp [nv],←hst] at hb' ⊢
   simp only[hw,aB,seval]
   exact⟨(),b',hb',aL.mk (by simp only[aB,seval])⟩
 · rw[aS (by rw[h2];simp),kF] at hst
   rw[←hst] at hb ⊢
   simp only[hw,aB,seval]
   exact⟨(),b,hb,aL.mk (by simp only[aB,seval])⟩
def sT(t:Tm):Bool:=g9 t.k t.s (t.ts.length:Int)
def mF(p:List Cl)(g:Tm):List Nat:=if(gQ p&&(g.valid&&sT g))=true then iE p g else[]
def iD(p:List Cl)(g:Tm):List Nat:=if(gQ p&&(g.valid&&sT g))=true then j3 p g (iE p g) else[]
theorem YY(p:List Cl)(g:Tm):iD p g=j3 p g (mF p g):=by
 unfold iD mF
 split
 · rfl
 · rfl
abbrev yW:=zi cB (zi fV (zi hQ (zi bH DN)))
theorem XF(p:List Cl)(g:Tm)(st:aA):aD prog 86 [.slice (p.map a7),g.av] st (fun r st'=>r=.slice ((mF p g).map nv)∧st'=st):=by
 have v1:=XI p
 have v2:=rT g
 refine aD.done ?_
 obtain⟨k,n,s,ts⟩:=g
 have v3:=A5 k n s ts
 have hpr:=FG k n s ts
 have hcf:=fun h=>W5 p (.mk k n s ts) h
 simp only[Tm.s,Tm.ts] at hcf
 rw[show mF p (.mk k n s ts)=if(gQ p&&((Tm.mk k n s ts).valid&&g9 k s (ts.length:Int)))=true then iE p (.mk k n s ts) else[] from rfl]
 simp only[a6] at v2 v3 hpr ⊢
 refine wF [1000000] 2 func86 ntmps86 rfl rfl ?_
 intro _
 simp only[aB,seval,yW]
 refine(v1 _).to ?_
 cases hok:gQ p with
 | false=>
  simp only[dL,fJ,cP,bF]
  simp only[fM,aB,seval]
  exact⟨rfl,aH.refl _⟩
 | true=>
  simp only[fX,fB,aB,seval,yW]
  refine(v2 _).to ?_
  cases hv:(Tm.mk k n s ts).valid with
  | false=>
   simp only[dL,fJ,cP,bF]
   simp only[fM,fB,aB,seval]
   exact⟨rfl,aH.refl _⟩
  | true=>
   simp only[fX,fB,aB,seval,yW]
   refine(v3 _).to ?_
   cases hpl:g9 k s (ts.length:Int) with
   | false=>
    simp only[fJ,cP,bF]
    simp only[fM,fB,aB,seval]
    exact⟨rfl,aH.refl _⟩
   | true=>
    simp only[fD]
    have aCG:p.length≤20:=(vE hok).1
    simp only[fX,fB,aB,seval,yW]
    refine(hpr _).to ?_
    simp only[aB,seval]
    refine(hcf (by omega) _).to ?_
    simp only[aB,seval]
    exact⟨rfl,aH.refl _⟩
abbrev qQ:=zi cB (zi fV (zi hQ bH))
theorem YR(p:List Cl)(g:Tm)(st:aA):aD prog 29 [.slice (p.map a7),g.av] st (fun r st'=>r=.slice ((iD p g).map nv)∧st'=st):=by
 have v1:=YU p
 have v2:=BE g
 refine aD.done ?_
 have hlc:=fun(hok:gQ p=true) (hv:g.valid=true)=>YL (p:=p) (vE hok).2 (by have:=(vE hok).1;omega) (N:=26) (t:=g) ⟨Tm.v6 hv,Tm.vZ hv⟩
 obtain⟨k,n,s,ts⟩:=g
 have v3:=BD k n s ts
 rw[show iD p (.mk k n s ts)=if(gQ p&&((Tm.mk k n s ts).valid&&g9 k s (ts.length:Int)))=true then j3 p (.mk k n s ts) (iE p (.mk k n s ts)) else[] from rfl]
 simp only[a6] at v2 v3 hlc ⊢
 refine wF [1000000] 2 func29 ntmps29 rfl rfl ?_
 intro _
 simp only[aB,seval,qQ]
 refine(v1 _).to ?_
 cases hok:gQ p with
 | false=>
  simp only[dL,fJ,cP,bF]
  simp only[fM,aB,seval,qQ]
  exact⟨rfl,aH.refl _⟩
 | true=>
  simp only[fX,fB,aB,seval,qQ]
  refine(v2 _).to ?_
  cases hv:(Tm.mk k n s ts).valid with
  | false=>
   simp only[dL,fJ,cP,bF]
   simp only[fM,fB,aB,seval,qQ]
   exact⟨rfl,aH.refl _⟩
  | true=>
   simp only[fX,fB,aB,seval,qQ]
   refine(v3 _).to ?_
   cases hpl:g9 k s (ts.length:Int) with
   | false=>
    simp only[fJ,cP,bF]
    simp only[fM,fB,aB,seval,qQ]
    exact⟨rfl,aH.refl _⟩
   | true=>
    simp only[fD]
    have aCG:p.length≤20:=(vE hok).1
    simp only[fX,fB,aB,seval,qQ]
    refine(hlc hok hv _).to ?_
    simp only[aB,seval]
    exact⟨rfl,aH.refl _⟩
abbrev DB:=zi fV (zi hQ bH)
theorem EW(p:List Cl)(g:Tm)(hg:Ng g)(st:aA)(hT:st kR=some mN):aD prog 26 [.slice (p.map a7),g.av] st (fun r st'=>r=.slice ((iD p g).map nv)∧st'=st):=by
 rw[YY]
 have hcf:=XF p g
 have eK:aD prog 85 [.slice (p.map a7),.slice ((mF p g).map nv),g.av] st (fun r st'=>r=.slice ((j3 p g (mF p g)).map nv)∧st'=st):=by
  by_cases hl:mF p g= []
  · rw[hl]
    exact W9 p hg st hT
  · have hok:(gQ p&&(g.valid&&sT g))=true:=by
     apply Classical.byContradiction
     intro h
     exact hl (by unfold mF;rw[aS h])
    have e:mF p g=iE p g:=by unfold mF;rw[aU hok]
    simp only[bV] at hok
    have hpX:=vE hok.1
    have h8:=uQ p g p.length
    rw[←uP] at h8
    rw[e] at hl ⊢
    exact W7 hpX.2 (N:=26) (t:=g) ⟨Tm.v6 hok.2.1,Tm.vZ hok.2.1⟩ _ hl (fun i hi=>by unfold iE at hi;exact rA.1 (wJ.1 hi).1) (by omega) st hT
 obtain⟨k,n,s,ts⟩:=g
 simp only[a6] at hcf eK ⊢
 refine wF [1000000] 2 func26 ntmps26 rfl rfl ?_
 intro _
 simp only[aB,seval,DB]
 refine wP [(0,1),(1,1),(2,2),(3,2),(4,2),(5,2),(6,1)] [0,1,2,3,4,5,6] mixed ?_
 simp only[aB,seval,DB]
 refine eV (hcf _) ?_
 simp only[aB,seval,DB]
 refine eV eK ?_
 simp only[aB,seval]
end Go.AW
namespace Go.AW
theorem aC5{k n:Int}{s:ByteArray}{us ts:List Tm}(h:us.length=ts.length):mK (.mk k n s us)=mK (.mk k n s ts):=by
 show(if k=1 then(⟨#[]⟩:ByteArray) else if k=2 then gN n else s++⟨#[47]⟩++eO 20 us.length ⟨#[]⟩)=_
 rw[h]
 try rfl
theorem aC6(f:Int→Tm){x:Tm}(h:x.k≠1):mK (x.dA f)=mK x:=by
 rw[Tm.CK f h]
 obtain⟨k,n,s,ts⟩:=x
 exact aC5 (aG _)
theorem aC4(f:Int→Tm)(t:Tm):gK t=⟨#[]⟩∨gK (t.dA f)=gK t:=by
 by_cases h:gK t=⟨#[]⟩
 · exact .inl h
 obtain⟨h1,x,l,ht,hk,hx⟩:=aC3 h
 refine .inr ?_
 rw[hk,Tm.CK f h1]
 obtain⟨k,n,s,ts⟩:=t
 simp only[Tm.k] at h1
 simp only[Tm.ts] at ht
 subst ht
 simp only[gK,Tm.k,aS h1,Tm.ts,bT]
 exact aC6 f hx
theorem aBF(a:ByteArray):nP a ⟨#[]⟩=true:=by
 unfold nP
 rw[dK (rfl:(⟨#[]⟩:ByteArray)=⟨#[]⟩)]
 simp
theorem ZH(p:List Cl)(f:Int→Tm)(t:Tm)(l:List Nat):∀i∈j3 p (t.dA f) l,i∈j3 p t l:=fun i hi=>by
 obtain⟨h1,h2⟩:=wJ.1 hi
 refine wJ.2 ⟨h1,?_⟩
 unfold kN at h2 ⊢
 cases hp:p[i]? with
 | none=>rw[hp] at h2;exact h2
 | some c=>
  rw[hp] at h2
  simp only at h2 ⊢
  rcases aC4 f t with h | h
  · rw[h];exact aBF _
  · rw[←h];exact h2
end Go.AW
namespace Go.AW
open Go.Proofs.Tryz

abbrev s7:=zi aZ (zi pE (zi fV (zi bH (zi tD (zi iV tC)))))
theorem WS(bs:List Bt)(st:aA):aD prog 27 [.slice (bs.map dV)] st (fun r st'=>(∃(t:Tm) (l:List Bd),r=.tup [t.av,.slice (l.map c6)])∧st'=st):=by
 refine aD.drop (Q:=fun r=>∃(t:Tm) (l:List Bd),r=.tup [t.av,.slice (l.map c6)]) (aD.fin ?_)
 refine wF [1000000] 1 func27 ntmps27 rfl rfl ?_
 intro _
 simp only[aB,seval,s7]
 intro b2 h2
 refine(A7 bs _).mono ?_
 rintro _ _ ⟨c,bs,rfl,hc,rfl⟩
 have hc2:c≠b2:=by rintro rfl;rw[aA.aP] at hc;cases hc
 have hnc:st c=none:=by rw[aA.aV _ _ hc2] at hc;exact hc
 simp only[aB,seval]
 refine(XX bs c 0 _ (by omega) bE.new).mono ?_
 rintro _ _ ⟨p1,_,hp1,rfl,t,ht,rfl⟩
 rw[bM]
 simp only[aB,seval]
 refine(E4 bs c p1 t ht.2 _ (by omega) bE.new).mono ?_
 rintro _ _ ⟨p2,_,hp2,rfl,t0,rfl⟩
 rw[bM]
 simp only[aR,bA,bW,aB,↓bG,seval,s7]
 refine(jB [2,1,3,0] (by simp) (by simp) bs c p2 (by omega) _ bE.new).mono ?_
 rintro _ _ ⟨y,hy,rfl,rfl⟩
 obtain⟨n,rfl,hn⟩:∃n:Nat,y=n∧n≤3:=by
  simp only[dS,gB,fU] at hy
  rcases hy with rfl | rfl | rfl | rfl
  · exact⟨2,rfl,by omega⟩
  · exact⟨1,rfl,by omega⟩
  · exact⟨3,rfl,by omega⟩
  · exact⟨0,rfl,by omega⟩
 rw[bM]
 have hD:∀o q,aH ((st.aC b2 o).aC c (aK bs q)) st:=fun o q=>((aH.refl _).aC h2).aC hnc
 have hW2:∀q,((st.aC b2 (.cells [.int .i64 0,.int .i64 0,.str ⟨#[]⟩,.fslice []])).aC c (aK bs q)) b2=some (.cells [.int .i64 0,.int .i64 0,.str ⟨#[]⟩,.fslice []]):=fun q=>by rw[aA.aV _ _ hc2.symm,aA.aP]
 simp only[aB,seval]
 refine fH (σ:=Nat×Nat×List Bd×Nat) [1000000] [2,3,4,5]
  (fun s=>(s.2.2.1.map c6≠[]→((st.aC b2 (.cells [.int .i64 0,.int .i64 0,.str ⟨#[]⟩,.fslice []])).aC c (aK bs s.2.2.2)) s.2.1=none)∧s.2.2.1.length+s.1≤3∧s.2.2.2+s.1*2000≤20000)
  (fun s=>[(6,aT 5 s.2.1 (s.2.2.1.map c6)),(7,.int .i64 s.1)]) (fun s=>aY ((st.aC b2 (.cells [.int .i64 0,.int .i64 0,.str ⟨#[]⟩,.fslice []])).aC c (aK bs s.2.2.2)) s.2.1 (s.2.2.1.map c6)) (fun s=>s.1) (by decide +kernel)
  ⟨(n,0,[],p2+1),⟨fun h=>absurd rfl h,by simpa using hn,by simp only;omega⟩,aL.mk (by simp only[bF,kJ,aB,seval])⟩ ?_
 rintro⟨i,b,l,q⟩ ⟨i1,i2,i3⟩
 simp only at i1 i2 i3
 simp only[aB,seval]
 refine aW (fun h=>?_) (fun h=>?_)
 · simp only[bK] at h
   have hcb:l.map c6≠[]→c≠b:=fun h e=>by have:=i1 h;rw[←e,aA.aP] at this;cases this
   have hwi:IntKind.i64.wrap ((i:Int) - 1)=((i - 1:Nat):Int):=by rw[wrap64 (by omega) (by omega)];omega
   have hR:∀q,bE (aY ((st.aC b2 (.cells [.int .i64 0,.int .i64 0,.str ⟨#[]⟩,.fslice []])).aC c (aK bs q)) b (l.map c6)) c bs q:=fun q=>by
    unfold bE
    by_cases hl:l.map c6= []
    · rw[hl,pQ,aA.aP];try rfl
    · rw[pP (hcb hl),aA.aP];try rfl
   have hup:∀q q',(aY ((st.aC b2 (.cells [.int .i64 0,.int .i64 0,.str ⟨#[]⟩,.fslice []])).aC c (aK bs q)) b (l.map c6)).aC c (aK bs q')=aY ((st.aC b2 (.cells [.int .i64 0,.int .i64 0,.str ⟨#[]⟩,.fslice []])).aC c (aK bs q')) b (l.map c6):=fun q q'=>by
    rw[jA hcb,bM]
   have hi:i≤3:=by omega
   simp only[aB,seval,s7]
   refine(jB [0,1,2,3,30] (by simp) (by simp) bs c q (by omega) _ (hR q)).mono ?_
   rintro _ _ ⟨m,_,rfl,rfl⟩
   rw[hup]
   simp only[aB,seval,s7]
   refine(jB [2,1,3] (by simp) (by simp) bs c (q+1) (by omega) _ (hR _)).mono ?_
   rintro _ _ ⟨d,hd,rfl,rfl⟩
   obtain⟨d,rfl,hd3⟩:∃n:Nat,d=n∧n≤3:=by
    simp only[dS,gB,fU] at hd
    rcases hd with rfl | rfl | rfl
    · exact⟨2,rfl,by omega⟩
    · exact⟨1,rfl,by omega⟩
    · exact⟨3,rfl,by omega⟩
   have hpw:4 ^ (d+2)≤1024:=by
    have:=tN (n:=4) (by omega) (show d+2≤5 by omega)
    simpa using this
   rw[hup]
   simp only[aB,seval]
   refine(A9 bs c d (q+1+1) _ (by omega) (by omega) (hR _)).mono ?_
   rintro _ _ ⟨q1,hq1,aH4,rfl,u,hu,rfl⟩
   rw[hup]
   simp only[aB,seval]
   refine(E4 bs c q1 u hu.2 _ (by omega) (hR _)).mono ?_
   rintro _ _ ⟨q2,hq2,aH5,rfl,u2,rfl⟩
   rw[hup]
   simp only[bW,aO,aB,seval,s7]
   rw[WB]
   have cO:(l.map c6).length≤3:=by rw[aG];omega
   have i1':l.map c6≠[]→((st.aC b2 (.cells [.int .i64 0,.int .i64 0,.str ⟨#[]⟩,.fslice []])).aC c (aK bs q2)) b=none:=fun h=>by
    have:=i1 h
    rw[aA.aV _ _ (cV (hcb h))] at this ⊢
    exact this
   refine eH xN F6 F8 rfl rfl (eR (uF _) (WC _)) (EO _) i1' (by simp only[bD,bN];omega) (by simp only[bD,bN];omega) (fun b' hb'=>?_)
   rw[show l.map c6++ [c6 (m,u2)]=(l++ [(m,u2)]).map c6 by simp] at hb' ⊢
   simp only[hwi,aB,seval]
   exact⟨(i - 1,b',l++ [(m,u2)],q2),by simp only;omega,⟨hb',by simp only[dI,bD,bN];omega,by simp only;omega⟩,aL.mk (by simp only[aB,seval])⟩
 · have hb2:l.map c6≠[]→b2≠b:=fun h e=>by have:=i1 h;rw[←e,hW2] at this;cases this
   have h2o:aY ((st.aC b2 (.cells [.int .i64 0,.int .i64 0,.str ⟨#[]⟩,.fslice []])).aC c (aK bs q)) b (l.map c6) b2=some (.cells [.int .i64 0,.int .i64 0,.str ⟨#[]⟩,.fslice []]):=by
    by_cases hl:l.map c6= []
    · rw[hl,pQ,hW2]
    · rw[pP (hb2 hl),hW2]
   simp only[h2o,cD (aO _),cC (aQ _),aF,aQ,aR,bA,bW,aO,rP,aB,seval,s7]
   rw[jA hb2]
   exact⟨b,l.map c6,_,rfl,fun h=>by rw[aA.aV _ _ (cV (hb2 h))];exact i1 h,WD l,⟨5,EO l⟩,((hD _ _).aC h2),t0,l,by simp only[mI,nO,aGA,bT,bF]⟩






abbrev yZ:=zi aZ (zi cB fV)
theorem YP(l:List Int)(st:aA):aD prog 11 [.slice (l.map iv),.slice (l.map iv)] st (fun r st'=>r=.bool true∧st'=st):=by
 refine wF [1000000] 2 func11 ntmps11 rfl rfl ?_
 simp only[dG,AV.fits,eJ,aG]
 intro ⟨⟨hl,_⟩,_⟩
 simp only[a8,aG,aB,seval,yZ]
 refine fW (σ:=Unit) [1000000] [0,1] l (fun _ _=>True) (fun i _=>[(4,.bool false),(5,.int .i64 i)]) (fun _ _=>st) (by decide +kernel) ⟨(),trivial,aL.mk (by simp only[aB,↓bG,seval])⟩ (fun i x _ hx hlt b9 hdr _=>?_) (fun _ hge _=>?_)
 case refine_2=>
  simp only[hge,aG,aB,seval,yZ]
 have hw:=bO (n:=(i:Int)+1)
 have hat:gZ prog 26 (.slice (l.map iv)) (.int .i64 (i:Int))=some (.pptr (iv x)):=cJ (av:=iv) jD hx rfl
 simp only[b9,aG,aB,seval,yZ]
 refine wX [(0,1),(1,1),(2,1),(3,1),(4,1),(5,1),(6,1),(7,1),(8,1)] [0,1,2,3,4,5,6,7,8] g7 mixed rfl aAB ?_
 simp only[a8,fB,hat,hw,aB,seval,yZ]
 exact⟨(),aL.mk (by simp only[aB,seval])⟩
end Go.AW
namespace Go.AW

end Go.AW
namespace Go.AW
open Go.Proofs.Tryz
section
variable {st0 st:aA} {S c m:Nat} {qt qc qn:AV} {p:List Cl} {q:List Tm} {idx:Bool} {fuel used mx:Int} {nd:List AV} {i:IS}
end
section
variable {st0 st:aA} {S c m:Nat} {qt qc qn:AV} {p:List Cl} {q:List Tm} {idx:Bool} {fuel used mx:Int} {nd:List AV} {i:IS}
end
section
variable {st0 st:aA} {S c m:Nat} {qt qc qn:AV} {p:List Cl} {q:List Tm} {idx:Bool} {fuel used mx:Int} {nd:List AV} {i:IS}
end



end Go.AW
namespace Go.AW

end Go.AW
namespace Go.AW
open Go.Proofs.Tryz
section
variable {p:List Cl} (hp:∀c∈p,mV c) {cnd:Tm→List Nat→List Nat} (hc:∀(ρ:Int→Int) (t:Tm) (l:List Nat),cnd (yP ρ t) l=cnd t l)
include hp hc
end
section
variable {p:List Cl} (hp:∀c∈p,mV c∧c.2.length≤6) (hpl:p.length≤20) {cnd:Tm→List Nat→List Nat} (hc:∀(ρ:Int→Int) (t:Tm) (l:List Nat),cnd (yP ρ t) l=cnd t l) (hd:∀t l,(∀i∈cnd t l,i∈l)∧(cnd t l).length≤l.length)
include hp
end
section
variable {st0 st:aA} {S c m:Nat} {qt qc qn:AV} {p:List Cl} {q:List Tm} {idx:Bool} {fuel used mx:Int} {nd:List AV} {i:IS}
end









end Go.AW
namespace Go.AW

end Go.AW
namespace Go.AW
open Go.Proofs.Tryz





end Go.AW
namespace Go.AW

def C0(s:Ss):Bool:=decide (s.fin= -1)
end Go.AW
namespace Go.AW
open Go.Proofs.Tryz

end Go.AW
namespace Go.AW
section
variable {P:Program}
inductive PT where
 | fin (p:List (Nat×Nat))
 | br (p:List (Nat×Nat)) (i j:Nat) (a b:PT)
def PT.size:PT→Nat
 | .fin p=>p.length
 | .br p _ _ a _=>p.length+(a.size+1)
end
end Go.AW
namespace Go.AW
open Go.Proofs.Tryz




end Go.AW
namespace Go.AW

end Go.AW
namespace Go.AW
open Go.Proofs.Tryz





section
variable {st0 T T':aA} {qw qa q':AV} {ba:Nat} {bs:List Nat} {W:List Nat} {osx A os LV:List AV}
end







theorem aDT(W:List Nat):W.map nv=(W.map fun i:Nat=>(i:Int)).map iv:=by rw[List.map_map];try rfl
theorem VR{a x:Tm}{bs:List Bd}(h:nG a bs=some x):a.valid=true∧(bs.all fun b=>b.2.valid)=true∧x=a.dA (mQ bs)∧x.valid=true:=by
 unfold nG at h
 split at h
 · rename_i hc
   cases h
   exact⟨hc.1,hc.2.1,rfl,hc.2.2⟩
 · cases h
theorem Y0{p:List Cl}{g:Tm}{f:Int→Tm}(hv:g.valid=true)(hk:g.k=3):∀i∈iD p (g.dA f),i∈iD p g:=by
 intro i hi
 have hm:=Tm.CK f (t:=g) (by omega)
 have hpl:sT (g.dA f)=sT g:=by rw[hm];unfold sT;simp only[Tm.k,Tm.s,Tm.ts,aG]
 have hh:∀c,x7 c (g.dA f)=x7 c g:=fun c=>by
  rw[hm]
  obtain⟨k,n,s,ts⟩:=g
  show(decide (c.1.s=s)&&decide ((c.1.ts.length:Int)=((ts.map (Tm.dA f)).length:Int)))=_
  rw[aG]
  try rfl
 have hfl:iE p (g.dA f)=iE p g:=by
  unfold iE
  simp only[hh]
 unfold iD at hi ⊢
 split at hi
 case isFalse=>cases hi
 rename_i h
 simp only[bV] at h
 rw[hpl] at h
 rw[hfl] at hi
 rw[aU (by simp only[h.1,hv,h.2.2,Bool.and_self])]
 exact ZH p f g _ i hi
theorem YZ(p:List Cl)(g:Tm):(iD p g).length≤p.length:=by
 unfold iD
 split
 · refine jM (ZI p g _).2 ?_
   have h8:=uQ p g p.length
   rwa [←uP] at h8
 · exact i7 _
abbrev TN:=zi aZ (zi cB fV)
theorem YO(l:List Nat)(n:Nat)(hn:n∈l)(st:aA):aD prog 31 [.slice (l.map nv),.int .i64 (n:Int)] st (fun r st'=>r=.bool true∧st'=st):=by
 refine wF [1000000] 2 func31 ntmps31 rfl rfl ?_
 simp only[dG,AV.fits,eJ,aG]
 intro ⟨hl,_⟩
 simp only[aB,seval]
 refine fW (σ:=Unit) [1000000] [0,1] l (fun i _=>n∈l.drop i) (fun i _=>[(4,.bool false),(5,.int .i64 i)]) (fun _ _=>st) (by decide +kernel) ⟨(),hn,aL.mk (by simp only[aB,↓bG,seval])⟩ (fun i x _ hx hlt b9 hdr hi=>?_) (fun _ hge hi=>?_)
 case refine_2=>simp at hi
 have hw:=bO (n:=(i:Int)+1)
 have hat:gZ prog 26 (.slice (l.map nv)) (.int .i64 (i:Int))=some (.pptr (.int .i64 (x:Int))):=cJ (av:=nv) jD hx rfl
 by_cases he:x=n
 · have he':=bR (show(x:Int)=(n:Int) by omega)
   simp only[b9,he',a8,aG,hat,aB,seval,TN]
 · have he':=bC (show ¬(x:Int)=(n:Int) by omega)
   simp only[b9,he',bB,aG,hat,hw,aB,seval,TN]
   rw[hdr] at hi
   rcases dS.1 hi with h | h
   · exact absurd h.symm he
   · exact⟨(),h,aL.mk (by simp only[aB,seval])⟩
abbrev kW:=zi aZ (zi cB (zi pE (zi fV (zi hQ (zi bH tD)))))
set_option maxHeartbeats 4000000 in
theorem WV(code more:List Bt)(st:aA)(hP:st kR=some mN):aD prog 6 [.slice (code.map dV),.slice (more.map dV)] st (fun r st'=>r=.bool true∧st' kR=some mN):=by
 refine wF [1000000] 2 func6 ntmps6 rfl rfl ?_
 intro _
 simp only[aG,aB,seval,kW]
 refine cU (fun h0=>?_) (fun h0=>?_)
 case refine_2=>
  simp only[h0,hP,aB,seval]
 simp only[h0,aG,aB,seval,kW]
 refine aW (fun h1=>?_) (fun h1=>?_)
 · simp only[hP,aB,seval]
 simp only[aB,seval]
 refine(WT code _).mono ?_
 rintro _ s1 ⟨⟨p,g,⟨oT,hg⟩,rfl⟩,rfl⟩
 have hci:=fun st hT=>EW p g hg st hT
 have hcs:=YR p g
 have hpi:∀st,aD prog 11 [.slice ((iD p g).map nv),.slice ((iD p g).map nv)] st (fun r st'=>r=.bool true∧st'=st):=fun st=>by rw[aDT];exact YP _ st
 have hgv:=EX g
 have hpn:=fun n hn=>YO (iD p g) n hn
 have sF:=fun(f:Int→Tm) hv hk=>Y0 (p:=p) (g:=g) (f:=f) hv hk
 simp only[aQ,aR,bA,bW,aB,↓bG,seval,kW]
 refine(hci _ hP).to ?_
 simp only[aB,seval]
 refine(WS more _).mono ?_
 rintro _ s2 ⟨⟨t0,os,rfl⟩,hs2⟩
 subst hs2
 simp only[aQ,aR,bA,bW,aB,↓bG,seval,kW]
 have hca:=fun s=>XD g os s
 have hap:=fun x (h:nG g os=some x)=>VR h
 have hga:=cD (aO g)
 have hgb:=cC (aQ g)
 cases hx:nG g os with
 | none=>
  rw[hx] at hca
  simp only[oX] at hca
  have hza:=cD (aO Tm.zero)
  have hzb:=cC (aQ Tm.zero)
  refine(hca _).to ?_
  simp only[aQ,aR,bA,bW,aB,↓bG,seval,kW]
  refine(hcs _).to ?_
  simp only[aB,seval]
  refine(hpi _).to ?_
  simp only[fX,fM,fB,aQ,aR,aB,seval,kW]
  refine(hcs _).to ?_
  simp only[aB,seval]
  refine(hpi _).to ?_
  simp only[hP,aB,seval]
 | some x=>
  obtain⟨aB5,hbv,hxe,hxv⟩:=hap x hx
  rw[hx] at hca
  simp only[oX] at hca
  have hza:=cD (aO x)
  have hzb:=cC (aQ x)
  have aBT:=fun st hT=>EW p x (UL hxv) st hT
  refine(hca _).to ?_
  simp only[aQ,aR,bA,bW,aB,↓bG,seval,kW]
  refine(hcs _).to ?_
  simp only[aB,seval]
  refine(hpi _).to ?_
  simp only[fX,fB,aQ,aR,aB,seval,kW]
  refine(hgv _).to ?_
  cases hgo:g.goal with
  | false=>
   simp only[fM,fB,aQ,aR,aB,seval,kW]
   refine(hcs _).to ?_
   simp only[aB,seval]
   refine(hpi _).to ?_
   simp only[hP,aB,seval]
  | true=>
   have hgk:g.k=3:=by
    have hqo:qL [g]=true:=by simp [qL,hgo]
    exact((aEK hqo).2 g (by simp)).2
   have hsb:∀i∈iD p x,i∈iD p g:=by rw[hxe];exact sF _ aB5 hgk
   simp only[fX,fB,aQ,aR,aB,seval,kW]
   refine(aBT _ hP).to ?_
   simp only[aB,seval]
   refine fW (σ:=Unit) [1000000] [7,12] (iD p x) (fun _ _=>True) (fun i _=>[(4,.bool false),(13,.int .i64 i)]) (fun _ _=>s2) (by decide +kernel) ⟨(),trivial,aL.mk (by simp only[aB,↓bG,seval])⟩ (fun i y _ hy hlt b9 hdr _=>?_) (fun _ hge _=>?_)
   case refine_2=>
    simp only[hge,hP,aG,aB,seval,kW]
   have hcl:=YZ p x
   have hw:=bO (n:=(i:Int)+1)
   have hat:gZ prog 26 (.slice ((iD p x).map nv)) (.int .i64 (i:Int))=some (.pptr (.int .i64 (y:Int))):=cJ (av:=nv) jD hy rfl
   have hyn:=hpn y (hsb y (c8 hy))
   simp only[b9,hat,aG,aB,seval,kW]
   refine(hyn _).to ?_
   simp only[fX,hw,aB,seval]
   exact⟨(),aL.mk (by simp only[aB,seval])⟩
end Go.AW
namespace Go.AW
open Go.ChangeShapes Go.WideShapes Go.ChangeAt Go.RowKit
abbrev RQ:aA:=fun _=>none
section
variable {H:Type} {enc:TypeId×Value→H} {P:Program} {w:World}
theorem D3{h:aN}{st:aA}{b k:Nat}:∀ {es:List AV} {off:Nat},(∀e∈es,e.width=k)→(∀(i:Nat) e,es[i]?=some e→VE h st b (off+i*k) e)→bY h st b off es
 | [],_,_,_=>by simp [bY]
 | e::es,off,hw,h=>by
  simp only[bY]
  refine⟨by simpa [VE] using h 0 e rfl,D3 (fun x hx=>hw x (by simp [hx])) fun i x hx=>?_⟩
  have:=h (i+1) x (by simpa using hx)
  rw[hw e (by simp),tL,←Nat.aFA k i] 
  exact this
where Nat.aFA (k i:Nat):(i+1)*k=k+i*k:=by rw[m7];omega
theorem FO{a:Addr}{v:Value}(h:w.cell? a=some v):a.spot=none∧a.block<w.heap.size∧cellAt w.heap a.block a.off=some v:=by
 unfold World.cell? at h
 split at h
 · rename_i c t fr hb
   split at h
   · cases h
   · rename_i hs
     refine⟨by simpa using hs,(qZ.1 hb).1,by simp [cellAt,hb,h]⟩
 · cases h
theorem FR{a:Addr}{n:Nat}{cs:List Value}(hs:a.spot=none)(h:w.cells? 0 a n=some cs):cN w.heap a.block a.off cs∧cs.length=n:=by
 obtain⟨_,hl,hc⟩:=World.cells?_some h
 refine⟨?_,hl⟩
 have:∀(l:List Value) (k:Nat),(∀i,i<l.length→w.cell? (a.add (k+i))=l[i]?)→cN w.heap a.block (a.off+k) l:=by
  intro l
  induction l with
  | nil=>intro _ _;trivial
  | cons v l ih=>
   intro k hk
   refine⟨?_,?_⟩
   · have:=(FO (hk 0 (by simp))).2.2
     obtain⟨b,off,sp⟩:=a
     simp only at hs
     subst hs
     simpa [Addr.iN] using this
   · have:=ih (k+1) (fun i hi=>by have:=hk (i+1) (by simp;omega);rw[show k+1+i=k+(i+1) by omega];simpa using this)
     simpa [tL] using this
 simpa using this cs 0 (fun i hi=>by simpa using hc i (by omega))
theorem UG(hl:laidOutB P=true){W W':World}{sp:Nat→Bool}:∀ {ts:List TypeId} {vs:List Value} {ds:List (DataW H)} {ps:List MemPlace},(ts.all fun t=>P.readableRec t&&decide (t<P.types.size))=true →
 DataW.TrodAll enc P W 0 (fun _=>true) true ts vs ds ps→(∀x∈ps,W.sameAt W' x)→(∀x∈ps,sp x.block=true)→DataW.TrodAll enc P W' 0 sp true ts vs ds ps
 | [],vs,ds,ps,_,h,_,_=>by
  cases vs<;>cases ds<;>simp [DataW.TrodAll] at h ⊢
  exact h
 | t::ts,vs,ds,ps,ht,h,h1,h2=>by
  obtain⟨v,vs',d,ds',p,q,rfl,rfl,rfl,hd,yA⟩:=trodAll_cons h
  simp only[iX,bV,bK] at ht
  refine⟨p,q,Go.WideElems.Trod_stays hl ht.1.1 ht.1.2 hd (fun x hx=>h1 x (by simp [hx])) (fun x hx=>h2 x (by simp [hx])),UG hl ht.2 yA (fun x hx=>h1 x (by simp [hx])) (fun x hx=>h2 x (by simp [hx])),rfl⟩
end
end Go.AW

