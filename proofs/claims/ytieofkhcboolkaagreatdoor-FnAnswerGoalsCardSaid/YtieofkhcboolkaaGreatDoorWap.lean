import Derived.Shelf.LaysM
import Derived.Shelf.Strconv.Itoa3
import Derived.Test.YtieofkhcboolkaaGreatDoorWao
import Derived.Test.YtieofkhcboolkaaGreatDoorWai
import Derived.Test.YtieofkhcboolkaaGreatDoorWak
import Derived.Test.YtieofkhcboolkaaGreatDoorWam
import Derived.Shelf.Slices.Clone
set_option linter.unusedSimpArgs false
set_option linter.unusedVariables false
set_option maxRecDepth 100000

namespace Go.AW
open Go.Proofs.Tryz
open Go.Shelf
set_option linter.unusedSimpArgs false
set_option linter.unusedVariables false
set_option maxRecDepth 100000
def a2H:Go.Shelf.Ren:=⟨fun | 171=>249 | 243=>310 | 246=>344 | 283=>361 | 284=>362 | 285=>363 | 286=>364 | 129=>369 | 317=>368 | 318=>370 | 319=>371 | 320=>372 | 337=>374 | 338=>375 | n=>n,fun | 3=>3 | 9=>9 | 2=>2 | 4=>4 | 171=>353 | 0=>0 | 53=>354 | 37=>22 | 5=>5 | 173=>357 | 212=>362 | 51=>363 | 20=>20 | 213=>364 | 46=>285 | 232=>367 | 233=>368 | n=>n,fun | 17=>1 | 18=>2 | 19=>3 | n=>n⟩
theorem a2G:Go.Proofs.LaysM.n171 prog a2H:={
 mixed:=by kernel_rfl
 f129:=Go.Proofs.Tryz.func369.trans (fE some (by kernel_rfl))
 f171:=Go.Proofs.Tryz.func249.trans (fE some (by kernel_rfl))
 f243:=Go.Proofs.Tryz.func310.trans (fE some (by kernel_rfl))
 f246:=Go.Proofs.Tryz.func344.trans (fE some (by kernel_rfl))
 f283:=Go.Proofs.Tryz.func361.trans (fE some (by kernel_rfl))
 f284:=Go.Proofs.Tryz.func362.trans (fE some (by kernel_rfl))
 f285:=Go.Proofs.Tryz.func363.trans (fE some (by kernel_rfl))
 f286:=Go.Proofs.Tryz.func364.trans (fE some (by kernel_rfl))
 f317:=Go.Proofs.Tryz.func368.trans (fE some (by kernel_rfl))
 f318:=Go.Proofs.Tryz.func370.trans (fE some (by kernel_rfl))
 f319:=Go.Proofs.Tryz.func371.trans (fE some (by kernel_rfl))
 f320:=Go.Proofs.Tryz.func372.trans (fE some (by kernel_rfl))
 f337:=Go.Proofs.Tryz.func374.trans (fE some (by kernel_rfl))
 f338:=Go.Proofs.Tryz.func375.trans (fE some (by kernel_rfl))
 t0:=Go.Proofs.Tryz.underlying0
 a0:=Go.Proofs.Tryz.isAgg0
 z0:=Go.Proofs.Tryz.sizeOf0
 v0:=Go.Proofs.Tryz.zeroValue0
 t2:=Go.Proofs.Tryz.underlying2
 a2:=Go.Proofs.Tryz.isAgg2
 z2:=Go.Proofs.Tryz.sizeOf2
 v2:=Go.Proofs.Tryz.zeroValue2
 t3:=Go.Proofs.Tryz.underlying3
 a3:=Go.Proofs.Tryz.isAgg3
 z3:=Go.Proofs.Tryz.sizeOf3
 v3:=Go.Proofs.Tryz.zeroValue3
 t4:=Go.Proofs.Tryz.underlying4
 a4:=Go.Proofs.Tryz.isAgg4
 z4:=Go.Proofs.Tryz.sizeOf4
 v4:=Go.Proofs.Tryz.zeroValue4
 t5:=Go.Proofs.Tryz.underlying5
 a5:=Go.Proofs.Tryz.isAgg5
 z5:=Go.Proofs.Tryz.sizeOf5
 v5:=Go.Proofs.Tryz.zeroValue5
 t9:=Go.Proofs.Tryz.underlying9
 a9:=Go.Proofs.Tryz.isAgg9
 z9:=Go.Proofs.Tryz.sizeOf9
 v9:=Go.Proofs.Tryz.zeroValue9
 t20:=Go.Proofs.Tryz.underlying20
 a20:=Go.Proofs.Tryz.isAgg20
 z20:=Go.Proofs.Tryz.sizeOf20
 v20:=Go.Proofs.Tryz.zeroValue20
 t37:=Go.Proofs.Tryz.underlying22
 a37:=Go.Proofs.Tryz.isAgg22
 z37:=Go.Proofs.Tryz.sizeOf22
 v37:=Go.Proofs.Tryz.zeroValue22
 t46:=Go.Proofs.Tryz.underlying285
 a46:=Go.Proofs.Tryz.isAgg285
 z46:=Go.Proofs.Tryz.sizeOf285
 v46:=Go.Proofs.Tryz.zeroValue285
 t51:=Go.Proofs.Tryz.underlying363
 a51:=Go.Proofs.Tryz.isAgg363
 z51:=Go.Proofs.Tryz.sizeOf363
 v51:=Go.Proofs.Tryz.zeroValue363
 t53:=Go.Proofs.Tryz.underlying354
 a53:=Go.Proofs.Tryz.isAgg354
 z53:=Go.Proofs.Tryz.sizeOf354
 v53:=Go.Proofs.Tryz.zeroValue354
 t171:=Go.Proofs.Tryz.underlying353
 a171:=Go.Proofs.Tryz.isAgg353
 z171:=Go.Proofs.Tryz.sizeOf353
 v171:=Go.Proofs.Tryz.zeroValue353
 t173:=Go.Proofs.Tryz.underlying357
 a173:=Go.Proofs.Tryz.isAgg357
 z173:=Go.Proofs.Tryz.sizeOf357
 v173:=Go.Proofs.Tryz.zeroValue357
 t212:=Go.Proofs.Tryz.underlying362
 a212:=Go.Proofs.Tryz.isAgg362
 z212:=Go.Proofs.Tryz.sizeOf362
 v212:=Go.Proofs.Tryz.zeroValue362
 t213:=Go.Proofs.Tryz.underlying364
 a213:=Go.Proofs.Tryz.isAgg364
 z213:=Go.Proofs.Tryz.sizeOf364
 t232:=Go.Proofs.Tryz.underlying367
 a232:=Go.Proofs.Tryz.isAgg367
 z232:=Go.Proofs.Tryz.sizeOf367
 v232:=Go.Proofs.Tryz.zeroValue367
 t233:=Go.Proofs.Tryz.underlying368
 a233:=Go.Proofs.Tryz.isAgg368
 z233:=Go.Proofs.Tryz.sizeOf368
 v233:=Go.Proofs.Tryz.zeroValue368
 g17:=by kernel_rfl
 g18:=by kernel_rfl
 g19:=by kernel_rfl
 i0:=by kernel_rfl
 i2:=by kernel_rfl
 i3:=by kernel_rfl
 i4:=by kernel_rfl
 i5:=by kernel_rfl
 i9:=by kernel_rfl
 i20:=by kernel_rfl
 i37:=by kernel_rfl
 i46:=by kernel_rfl
 i51:=by kernel_rfl
 i53:=by kernel_rfl
 i171:=by kernel_rfl
 i173:=by kernel_rfl
 i212:=by kernel_rfl
 i232:=by kernel_rfl
 i233:=by kernel_rfl
 m17:=by kernel_rfl
 m18:=by kernel_rfl
 m19:=by kernel_rfl }
theorem PE:∀(f u:Nat) (acc:ByteArray),u<10 ^ f→0<f→kO f u acc=⟨(Lib.decDigits u).toArray⟩++acc
 | 0,_,_,_,h=>absurd h (by decide)
 | f+1,u,acc,h,_=>by
  rw[kO,Lib.decDigits]
  rw[Nat.pow_succ] at h
  by_cases h9:9<u
  · have hf:0<f:=by
     rcases NV f with rfl | h'
     · simp at h;omega
     · exact h'
    rw[aJ h9,dif_neg (by omega),PE f (u / 10) _ (by omega) hf]
    apply BZ
    simp [EZ]
  · rw[aF h9,dif_pos (by omega)]
theorem a2I{n:Int}(h1: -999≤n)(h2:n≤999):(⟨(Lib.itoa n).toArray⟩:ByteArray)=mK n:=by
 unfold Lib.itoa mK
 by_cases h:n<0
 · rw[aJ h,aJ h,PE 20 _ _ (by omega) (by decide),show n.natAbs=(-n).toNat by omega]
   apply BZ
   simp [EZ]
 · rw[aF h,aF h,PE 20 _ _ (by omega) (by decide)]
   apply BZ
   simp [EZ]
theorem aWE(n:Int):(mK n).size≤21:=by
 have h0:(⟨#[]⟩:ByteArray).size=0:=rfl
 unfold mK
 split
 · have:=AB 20 (-n).toNat ⟨#[]⟩
   rw[cL]
   show 1+_≤_
   omega
 · have:=AB 20 n.toNat ⟨#[]⟩
   omega
def iP:AO:=.tab (Lib.pow10Tab.map fun z=>Value.int .u64 z).toArray
abbrev g9:Nat:=1
def SK:String:= "internal/strconv.uint64pow10"
theorem a50{P:Program}{w:World}{g:Nat}{name:String}{k:IntKind}{zs:List Int}{st:aB}(hg:P.globalNamed name=some g)(S:cW w.heap st)(h:st g=some (.tab (zs.map fun z=>Value.int k z).toArray)):Lib.TabIs P w name k zs:=by
 obtain⟨_,t,e⟩:=S g _ h
 unfold Lib.TabIs World.var?
 rw[hg,I9,e]
theorem RX(n:Int)(h1: -999≤n)(h2:n≤999)(st:aB)(hT:st g9=some iP):aD prog 249 [.int .i64 n] st (fun r st'=>r=.str (mK n)∧st'=st):=by
 refine⟨⟨_,func249,rfl,by kernel_rfl⟩,fun w vs S V=>?_⟩
 obtain rfl:vs= [.int .i64 n]:=by
  obtain⟨v,r,rfl,v1,v2⟩:=V
  obtain rfl:r= []:=v2
  rw[v1.kA]
 refine(Go.Proofs.Any.strconv_Itoa a2G n (by omega) (by omega) w (a50 (by kernel_rfl) S hT)).mono ?_
 rintro e w' ⟨rfl,k,os,rfl⟩
 rw[a2I h1 h2]
 have X:Ext w.heap (Sort.grow (w.drewN k) os).heap:=⟨by simp [Sort.grow],fun b hb=>by simp only[Sort.grow,World.heap_drewN];rw[Array.getElem?_append_left hb]⟩
 exact⟨_,.str (mK n),st,rfl,⟨rfl,rfl,by have:=aWE n;show _≤(9223372036854775807:Nat);omega⟩,S.ext X,X.step st,⟨rfl,rfl,rfl⟩,rfl,rfl⟩
end Go.AW

namespace Go.AW
open Go.Proofs.Tryz
def pB(s:ByteArray)(a:Int)(p:UInt8→Bool):Bool:=decide (0≤a)&&(decide (a<(s.size:Int))&&(match (sb s)[a.toNat]? with | some x=>p x | none=>false))
def yO(s:ByteArray)(a:Int)(c:Nat):Bool:=pB s a fun x=>decide (x.toNat=c)
def xY(s:ByteArray)(a:Int):Bool:=pB s a fun x=>decide (48≤x.toNat)&&decide (x.toNat≤57)
def yP(s:ByteArray)(a:Int):Bool:=pB s a letter
theorem uD{s:ByteArray}{n:Nat}(h:n<s.size):∃x,(sb s)[n]?=some x:=⟨_,eN (by rw[cQ];exact h)⟩
abbrev aOM:=zi aX (zi bZ (zi kU cJ))
theorem aTX(s:ByteArray)(a:Int)(c:Nat)(st:aB):aD prog 283 [.str s,.int .i64 a,.int .u8 (c:Int)] st (fun r st'=>r=.bool (yO s a c)∧st'=st):=by
 by_cases h:0≤a∧a<(s.size:Int)
 · obtain⟨n,rfl⟩:=pV h.1
   obtain⟨x,hx⟩:=uD (s:=s) (n:=n) (by omega)
   have hix:=rZ (P:=prog) (t:=9) rB hx
   have hv:yO s (n:Int) c=decide (x.toNat=c):=by simp only[yO,pB,kX,hx,eH h.1,eH h.2,dU]
   rw[hv]
   refine wF [1000000] 3 func283 ntmps283 rfl rfl ?_
   intro _
   repeat' (first
    | (simp only[*,aA,seval,aOM])
    | (refine cU (fun h=>?_) (fun h=>?_))
    | (refine aP (fun h=>?_) (fun h=>?_)))
   all_goals simp_all
   omega
 · by_cases h1:0≤a
   · have h2:¬a<(s.size:Int):=fun h2=>h ⟨h1,h2⟩
     have hv:yO s a c=false:=by simp only[yO,pB,d6 h2,fB,lN]
     rw[hv]
     clear hv h
     refine wF [1000000] 3 func283 ntmps283 rfl rfl ?_
     intro _
     simp only[h1,h2,bF,bP,aA,seval,aOM]
   · have hv:yO s a c=false:=by simp only[yO,pB,d6 h1,fB]
     rw[hv]
     clear hv h
     refine wF [1000000] 3 func283 ntmps283 rfl rfl ?_
     intro _
     simp only[h1,bP,aA,seval]
abbrev aOO:=zi aX (zi bZ (zi kU cJ))
theorem aTQ(s:ByteArray)(a:Int)(st:aB):aD prog 334 [.str s,.int .i64 a] st (fun r st'=>r=.bool (xY s a)∧st'=st):=by
 by_cases h:0≤a∧a<(s.size:Int)
 · obtain⟨n,rfl⟩:=pV h.1
   obtain⟨x,hx⟩:=uD (s:=s) (n:=n) (by omega)
   have hix:=rZ (P:=prog) (t:=9) rB hx
   have hv:xY s (n:Int)=(decide (48≤x.toNat)&&decide (x.toNat≤57)):=by simp only[xY,pB,kX,hx,eH h.1,eH h.2,dU]
   rw[hv]
   refine wF [1000000] 2 func334 ntmps334 rfl rfl ?_
   intro _
   repeat' (first
    | (simp only[*,aA,seval,aOO])
    | (refine cU (fun h=>?_) (fun h=>?_))
    | (refine aP (fun h=>?_) (fun h=>?_)))
   all_goals clear hix hv hx
   all_goals (congr 1;rw[u9];simp only[cB,bO,dB,fU,gE,false_iff,not_and] at *;omega)
 · by_cases h1:0≤a
   · have h2:¬a<(s.size:Int):=fun h2=>h ⟨h1,h2⟩
     have hv:xY s a=false:=by simp only[xY,pB,d6 h2,fB,lN]
     rw[hv]
     clear hv h
     refine wF [1000000] 2 func334 ntmps334 rfl rfl ?_
     intro _
     simp only[h1,h2,bF,bP,aA,seval,aOO]
   · have hv:xY s a=false:=by simp only[xY,pB,d6 h1,fB]
     rw[hv]
     clear hv h
     refine wF [1000000] 2 func334 ntmps334 rfl rfl ?_
     intro _
     simp only[h1,bP,aA,seval]
abbrev aON:=zi aX (zi bZ (zi kU cJ))
theorem aTZ(s:ByteArray)(a:Int)(st:aB):aD prog 333 [.str s,.int .i64 a] st (fun r st'=>r=.bool (yP s a)∧st'=st):=by
 by_cases h:0≤a∧a<(s.size:Int)
 · obtain⟨n,rfl⟩:=pV h.1
   obtain⟨x,hx⟩:=uD (s:=s) (n:=n) (by omega)
   have hix:=rZ (P:=prog) (t:=9) rB hx
   have hv:yP s (n:Int)=(decide (97≤x.toNat)&&decide (x.toNat≤122)):=by simp only[yP,pB,letter,kX,hx,eH h.1,eH h.2,dU]
   rw[hv]
   refine wF [1000000] 2 func333 ntmps333 rfl rfl ?_
   intro _
   repeat' (first
    | (simp only[*,aA,seval,aON])
    | (refine cU (fun h=>?_) (fun h=>?_))
    | (refine aP (fun h=>?_) (fun h=>?_)))
   all_goals clear hix hv hx
   all_goals (congr 1;rw[u9];simp only[cB,bO,dB,fU,gE,false_iff,not_and] at *;omega)
 · by_cases h1:0≤a
   · have h2:¬a<(s.size:Int):=fun h2=>h ⟨h1,h2⟩
     have hv:yP s a=false:=by simp only[yP,pB,d6 h2,fB,lN]
     rw[hv]
     clear hv h
     refine wF [1000000] 2 func333 ntmps333 rfl rfl ?_
     intro _
     simp only[h1,h2,bF,bP,aA,seval,aON]
   · have hv:yP s a=false:=by simp only[yP,pB,d6 h1,fB]
     rw[hv]
     clear hv h
     refine wF [1000000] 2 func333 ntmps333 rfl rfl ?_
     intro _
     simp only[h1,bP,aA,seval]
theorem HP{φ:AF}{y z:Operand}{s:ByteArray}{k m:Nat}(h:φ.eval y=.int .i64 (k:Int))(h':φ.eval z=.int .i64 (m:Int))(hk:k≤m)(hm:m≤s.size):gZ prog φ 9 (.str s) (some y) (some z) none=some (.str (s.extract k m)):=by
 unfold gZ oF
 rw[aF (by simp [qP])]
 simp only[show prog.underlying 9=some .string from rB,dY,h,h']
 rw[aJ (by omega)]
 simp only[kX]
 rw[aJ (by omega)]
 try simp
theorem ON(s:ByteArray)(n:Nat)(p:UInt8→Bool):pB s (n:Int) p=gD (sb s) n p:=by
 unfold pB gD
 rw[kX]
 by_cases h:n<s.size
 · rw[eH (by omega:(0:Int)≤(n:Int)),eH (by omega:(n:Int)<(s.size:Int))];try rfl
 · rw[d6 (by omega:¬(n:Int)<(s.size:Int)),xF (by rw[cQ];omega)];simp
theorem k0(s:ByteArray)(n c:Nat)(st:aB):aD prog 283 [.str s,.int .i64 (n:Int),.int .u8 (c:Int)] st (fun r st'=>r=.bool (cT (sb s) n c)∧st'=st):=by
 have h:=aTX s n c st
 rwa [show yO s n c=cT (sb s) n c from ON s n _] at h
theorem AZ(s:ByteArray)(n:Nat)(st:aB):aD prog 334 [.str s,.int .i64 (n:Int)] st (fun r st'=>r=.bool (gD (sb s) n dK)∧st'=st):=by
 have h:=aTQ s n st
 rwa [show xY s n=gD (sb s) n dK from ON s n _] at h
theorem aLX(s:ByteArray)(n:Nat)(st:aB):aD prog 333 [.str s,.int .i64 (n:Int)] st (fun r st'=>r=.bool (gD (sb s) n letter)∧st'=st):=by
 have h:=aTZ s n st
 rwa [show yP s n=gD (sb s) n letter from ON s n _] at h
theorem WD{n k:Nat}(h:n≤1048576)(hk:k≤1048576):IntKind.wrap .i64 ((n:Int)+(k:Int))=((n+k:Nat):Int):=by
 rw[wrap64 (by omega) (by omega)];try rfl
abbrev EN:=zi aX (zi bZ (zi kU cJ))
theorem XI(s:ByteArray)(hd:∀x∈sb s,dK x=true)(hl:s.size≤4)(st:aB):aD prog 366 [.str s] st (fun r st'=>r=.tup [.int .i64 ((iL (sb s)).1:Int),.bool (iL (sb s)).2]∧st'=st):=by
 refine wF [1000000] 1 func366 ntmps366 rfl rfl ?_
 intro _
 by_cases hs:s.size=0
 · have e:iL (sb s)=(0,false):=by unfold iL;rw[aJ (Or.inl (by rw[cQ];exact hs))]
   rw[e]
   simp only[hs,aA,↓aR,seval,EN]
 have yC:(0:Int)<(s.size:Int):=by omega
 obtain⟨x0,hx0⟩:=uD (s:=s) (n:=0) (by omega)
 have hix:=rZ (P:=prog) (t:=9) rB hx0
 rw[show((0:Nat):Int)=0 from rfl] at hix
 have hdx:=hd x0 (cD hx0)
 simp only[dK,cB,bO] at hdx
 have h45:((x0.toNat:Int)=45)=False:=bU (by omega)
 have h0:((s.size:Int)=0)=False:=bU (by omega)
 have h17:((17:Int)<(s.size:Int))=False:=bU (by omega)
 simp only[yC,hix,h45,h0,h17,bF,bP,aA,seval,EN]
 by_cases h48:x0.toNat=48
 case pos=>
  have DE:((x0.toNat:Int)=48)=True:=cK (by omega)
  by_cases h1:1<s.size
  case pos=>
   have h1':((1:Int)<(s.size:Int))=True:=cK (by omega)
   have e:iL (sb s)=(0,false):=by unfold iL;rw[aJ (Or.inr ⟨by rw[qO hx0,h48];try rfl,by rw[cQ];exact h1⟩)]
   rw[e]
   simp only[DE,h1',bF,aA,↓aR,seval,EN]
  have h1':((1:Int)<(s.size:Int))=False:=bU (by omega)
  have hnd:iL (sb s)=(nU (sb s),true):=by unfold iL;rw[aF (by rw[cQ];rintro(h | ⟨_,h⟩)<;>omega)]
  simp only[DE,h1',bF,bP,aA,seval,EN]
  rw[hnd]
  refine iG (σ:=Nat) [1000000] [0,4] (fun i=>i≤s.size) (fun i=>[(5,.int .i64 (nU ((sb s).take i):Int)),(6,.int .i64 (i:Int))]) (fun _=>st) (fun i=>s.size - i) (by decide +kernel) ⟨0,by omega,aN.mk (by simp only[jG,aA,↓aR,seval];rfl)⟩ ?_
  intro i hi
  have hb:nU ((sb s).take i)<10000:=tZ (PF fun x hx=>hd x (lB hx)) (jP (NW (by omega) (by rw[dC];omega:((sb s).take i).length≤4)) (by decide))
  simp only[aA,seval,EN]
  refine aP (fun h5=>?_) (fun h5=>?_)
  case refine_2=>
   simp only[dB] at h5
   obtain rfl:i=s.size:=by omega
   rw[lC (by rw[cQ];omega)]
   simp only[aA,seval]
  simp only[bO] at h5
  obtain⟨c,hc⟩:=uD (s:=s) (n:=i) (by omega)
  have hic:=rZ (P:=prog) (t:=9) rB hc
  have hdc:=hd c (cD hc)
  simp only[dK,cB,bO] at hdc
  have c48:((c.toNat:Int)<48)=False:=bU (by omega)
  have c57:((57:Int)<(c.toNat:Int))=False:=bU (by omega)
  have hw0:=WD (n:=i) (k:=1) (by omega) (by omega)
  rw[show((1:Nat):Int)=1 from rfl] at hw0
  have hw1:=bL (n:=(nU ((sb s).take i):Int)*10)
  have hw2:IntKind.wrap .u8 ((c.toNat:Int) - 48)=((c.toNat - 48:Nat):Int):=by rw[IntKind.wrap_u8];omega
  have hw3:=bL (n:=((c.toNat - 48:Nat):Int))
  have hw4:=bL (n:=(nU ((sb s).take i):Int)*10+((c.toNat - 48:Nat):Int))
  have gA:=ZB hc
  simp only[hic,c48,c57,hw1,hw2,bP,aA,seval]
  refine⟨i+1,by omega,by omega,aN.mk ?_⟩
  rw[gA]
  simp only[hw0,hw3,hw4,aA,seval]
  rfl
 have DE:((x0.toNat:Int)=48)=False:=bU (by omega)
 have hnd:iL (sb s)=(nU (sb s),true):=by unfold iL;rw[aF (by rw[cQ,qO hx0];rintro(h | ⟨h,_⟩);omega;exact h48 (of_decide_eq_true h))]
 simp only[DE,bP,aA,seval]
 rw[hnd]
 refine iG (σ:=Nat) [1000000] [0,4] (fun i=>i≤s.size) (fun i=>[(5,.int .i64 (nU ((sb s).take i):Int)),(6,.int .i64 (i:Int))]) (fun _=>st) (fun i=>s.size - i) (by decide +kernel) ⟨0,by omega,aN.mk (by simp only[jG,aA,↓aR,seval];rfl)⟩ ?_
 intro i hi
 have hb:nU ((sb s).take i)<10000:=tZ (PF fun x hx=>hd x (lB hx)) (jP (NW (by omega) (by rw[dC];omega:((sb s).take i).length≤4)) (by decide))
 simp only[aA,seval,EN]
 refine aP (fun h5=>?_) (fun h5=>?_)
 case refine_2=>
  simp only[dB] at h5
  obtain rfl:i=s.size:=by omega
  rw[lC (by rw[cQ];omega)]
  simp only[aA,seval]
 simp only[bO] at h5
 obtain⟨c,hc⟩:=uD (s:=s) (n:=i) (by omega)
 have hic:=rZ (P:=prog) (t:=9) rB hc
 have hdc:=hd c (cD hc)
 simp only[dK,cB,bO] at hdc
 have c48:((c.toNat:Int)<48)=False:=bU (by omega)
 have c57:((57:Int)<(c.toNat:Int))=False:=bU (by omega)
 have hw0:=WD (n:=i) (k:=1) (by omega) (by omega)
 rw[show((1:Nat):Int)=1 from rfl] at hw0
 have hw1:=bL (n:=(nU ((sb s).take i):Int)*10)
 have hw2:IntKind.wrap .u8 ((c.toNat:Int) - 48)=((c.toNat - 48:Nat):Int):=by rw[IntKind.wrap_u8];omega
 have hw3:=bL (n:=((c.toNat - 48:Nat):Int))
 have hw4:=bL (n:=(nU ((sb s).take i):Int)*10+((c.toNat - 48:Nat):Int))
 have gA:=ZB hc
 simp only[hic,c48,c57,hw1,hw2,bP,aA,seval]
 refine⟨i+1,by omega,by omega,aN.mk ?_⟩
 rw[gA]
 simp only[hw0,hw3,hw4,aA,seval]
 rfl
theorem mW{x:Int}{m:Nat}(h:x=(m:Int))(hm:m≤1099511627776):IntKind.wrap .i64 x=(m:Int):=by rw[wrap64 (by omega) (by omega)];exact h
abbrev IK:Tm:=.mk 0 0 ⟨#[]⟩ []
def A2(o:Option (Int×Nat)):AV:=match o with | some (n,e)=>.tup [(Tm.mk 2 n ⟨#[]⟩ []).av,.int .i64 (e:Int)] | none=>.tup [IK.av,.int .i64 (-1)]
abbrev BO:=zi aX (zi bZ (zi kU (zi y6 (zi cJ bQ))))
set_option maxHeartbeats 1000000 in
theorem aTU(s:ByteArray)(hs:s.size≤1000)(a:Nat)(ha:a≤s.size)(st:aB):aD prog 353 [.str s,.int .i64 (a:Int)] st (fun r st'=>r=A2 (uU (sb s) a)∧st'=st):=by
 refine aD.done ?_
 refine wF [1000000] 2 func353 ntmps353 rfl rfl ?_
 intro _
 simp only[aA,seval,BO]
 intro b hb
 refine(k0 s a 45 _).to ?_
 obtain⟨f1,hf1⟩:∃f,f=a+1:=⟨_,rfl⟩
 have hw1:=mW (x:=(a:Int)+1) (m:=f1) (by omega) (by omega)
 simp only[aA,seval]
 refine aP (fun h1=>?_) (fun h1=>?_)
 · have hf:=oN h1
   rw[cQ] at hf
   simp only[hw1,aA,seval]
   obtain⟨f,rfl⟩:∃f,f=f1:=⟨_,rfl⟩
   replace hf:f≤s.size:=by omega
   refine iG (σ:=Nat) [1000000] [0,1,4,5,7] (fun j=>f≤j∧j≤f+4∧j - f≤(((sb s).drop f).takeWhile dK).length) (fun j=>[(6,.int .i64 (j:Int))]) (fun _=>st.aC b (.cells [.int .i64 0,.int .i64 0,.str ⟨#[]⟩,.fslice []])) (fun j=>f+4 - j) (by decide +kernel) ⟨f,⟨by omega,by omega,by omega⟩,aN.mk (by simp only[aA,seval])⟩ ?_
   rintro j ⟨hj1,hj4,hj⟩
   have hfi:j≤s.size:=by have:=IP dK ((sb s).drop f);rw[mZ,cQ] at this;omega
   simp only[aA,seval]
   refine(AZ s j _).to ?_
   have hw4:=bL (n:=(f:Int)+4)
   have G2:=bL (n:=(j:Int)+1)
   simp only[aA,seval]
   refine cU (fun h5=>?_) (fun h5=>?_)
   simp only[h5,hw4,aA,seval]
   refine aP (fun h6=>?_) (fun h6=>?_)
   case' refine_1.refine_1=>
    rw[show j=f+(j - f) by omega,←DS] at h5
    simp only[bO] at h6
    simp only[G2,aA,seval]
    exact⟨j+1,by omega,⟨by omega,by omega,by have:=UH hj h5;omega⟩,aN.mk (by simp only[aA,seval]<;>rfl)⟩
   all_goals
    have ht:(((sb s).drop f).takeWhile dK).take 4=((sb s).drop f).take (j - f):=by
     rw[aPG hj]
     rcases lD (j - f) 4 with h7 | h7
     · have h8:j - f=(((sb s).drop f).takeWhile dK).length:=by
        refine UG hj ?_
        rw[DS,show f+(j - f)=j by omega]
        first | exact h5 | (simp only[dB] at h6;omega)
       rw[h8,dW,lC (by omega)]
     · rw[show j - f=4 by omega]
    have hex:s.extract f j=ba ((((sb s).drop f).takeWhile dK).take 4):=by rw[FV,ht]
    have hln:((((sb s).drop f).takeWhile dK).take 4).length=j - f:=by rw[ht,dC,mZ,cQ];omega
    have hdg:∀x∈(((sb s).drop f).takeWhile dK).take 4,dK x=true:=fun x hx=>aPF x (lB hx)
    have hsl:=fun(φ:AF) (y z:Operand) (h:φ.eval y=.int .i64 (f:Int)) (h':φ.eval z=.int .i64 (j:Int))=>HP (s:=s) h h' hj1 hfi
    rw[hex] at hsl
    have hrd:uU (sb s) a=if(iL ((((sb s).drop f).takeWhile dK).take 4)).2=false∨(a<f∧(iL ((((sb s).drop f).takeWhile dK).take 4)).1=0)∨999<(iL ((((sb s).drop f).takeWhile dK).take 4)).1 then none else some (if a<f then -((iL ((((sb s).drop f).takeWhile dK).take 4)).1:Int) else((iL ((((sb s).drop f).takeWhile dK).take 4)).1:Int),f+((((sb s).drop f).takeWhile dK).take 4).length):=by
     unfold uU
     simp only[h1,↓reduceIte,←hf1]
    rw[hrd]
    clear hrd
    generalize (((sb s).drop f).takeWhile dK).take 4=t at *
    simp only[hsl,h5,aA,seval]
    refine(XI (ba t) hdg (by show t.length≤4;omega) _).to ?_
    have hn:=aL2 hdg (by omega)
    rw[show sb (ba t)=t from rfl]
    generalize iL t=nd at *
    obtain⟨n,ok⟩:=nd
    simp only at hn ⊢
    have hw5:=bL (n:=0 - (n:Int))
    have hw6:=bL (n:= -(n:Int))
    have hfa:((a:Int)<(f:Int))=True:=cK (by omega)
    have hfn:(a<f)=True:=cK (by omega)
    cases ok
    case false=>
     simp only[aK,aA,seval,BO]
     refine⟨?_,(aL.refl _).aC hb⟩
     rw[aJ (Or.inl trivial)]
     simp only[A2,aU,jC,iT,jN,k8,k7,aZ,aV,aV]
    by_cases hz:(n:Int)=0
    case' pos=>have hz':n=0:=by omega
    case' neg=>have hz':n≠0:=by omega
    all_goals
     by_cases h9:(999:Int)<(n:Int)
     case' pos=>have h9':999<n:=by omega
     case' neg=>have h9':¬ 999<n:=by omega
     all_goals try (exfalso;omega)
     all_goals
      simp only[aK,hw5,hz,h9,hfa,aA,seval,BO]
      try
       refine(CV _ _).to ?_
       simp only[aK,aA,seval,BO]
      refine⟨?_,(aL.refl _).aC hb⟩
      first
       | rw[aJ (by omega)]
       | rw[aF (by omega),aJ (by omega),show f+t.length=j by omega]
       | rw[aF (by omega),aF (by omega),show f+t.length=j by omega]
      simp only[A2,aU,jC,iT,jN,k8,nG,k7,aZ,aV,aV,Int.zero_sub]
 · skip
   simp only[aA,seval]
   obtain⟨f,rfl⟩:∃f,f=a:=⟨_,rfl⟩
   have hf:=ha
   refine iG (σ:=Nat) [1000000] [0,1,4,5,7] (fun j=>f≤j∧j≤f+4∧j - f≤(((sb s).drop f).takeWhile dK).length) (fun j=>[(6,.int .i64 (j:Int))]) (fun _=>st.aC b (.cells [.int .i64 0,.int .i64 0,.str ⟨#[]⟩,.fslice []])) (fun j=>f+4 - j) (by decide +kernel) ⟨f,⟨by omega,by omega,by omega⟩,aN.mk (by simp only[aA,seval])⟩ ?_
   rintro j ⟨hj1,hj4,hj⟩
   have hfi:j≤s.size:=by have:=IP dK ((sb s).drop f);rw[mZ,cQ] at this;omega
   simp only[aA,seval]
   refine(AZ s j _).to ?_
   have hw4:=bL (n:=(f:Int)+4)
   have G2:=bL (n:=(j:Int)+1)
   simp only[aA,seval]
   refine cU (fun h5=>?_) (fun h5=>?_)
   simp only[h5,hw4,aA,seval]
   refine aP (fun h6=>?_) (fun h6=>?_)
   case' refine_1.refine_1=>
    rw[show j=f+(j - f) by omega,←DS] at h5
    simp only[bO] at h6
    simp only[G2,aA,seval]
    exact⟨j+1,by omega,⟨by omega,by omega,by have:=UH hj h5;omega⟩,aN.mk (by simp only[aA,seval]<;>rfl)⟩
   all_goals
    have ht:(((sb s).drop f).takeWhile dK).take 4=((sb s).drop f).take (j - f):=by
     rw[aPG hj]
     rcases lD (j - f) 4 with h7 | h7
     · have h8:j - f=(((sb s).drop f).takeWhile dK).length:=by
        refine UG hj ?_
        rw[DS,show f+(j - f)=j by omega]
        first | exact h5 | (simp only[dB] at h6;omega)
       rw[h8,dW,lC (by omega)]
     · rw[show j - f=4 by omega]
    have hex:s.extract f j=ba ((((sb s).drop f).takeWhile dK).take 4):=by rw[FV,ht]
    have hln:((((sb s).drop f).takeWhile dK).take 4).length=j - f:=by rw[ht,dC,mZ,cQ];omega
    have hdg:∀x∈(((sb s).drop f).takeWhile dK).take 4,dK x=true:=fun x hx=>aPF x (lB hx)
    have hsl:=fun(φ:AF) (y z:Operand) (h:φ.eval y=.int .i64 (f:Int)) (h':φ.eval z=.int .i64 (j:Int))=>HP (s:=s) h h' hj1 hfi
    rw[hex] at hsl
    have hrd:uU (sb s) f=if(iL ((((sb s).drop f).takeWhile dK).take 4)).2=false∨(f<f∧(iL ((((sb s).drop f).takeWhile dK).take 4)).1=0)∨999<(iL ((((sb s).drop f).takeWhile dK).take 4)).1 then none else some (if f<f then -((iL ((((sb s).drop f).takeWhile dK).take 4)).1:Int) else((iL ((((sb s).drop f).takeWhile dK).take 4)).1:Int),f+((((sb s).drop f).takeWhile dK).take 4).length):=by
     unfold uU
     simp only[h1,↓reduceIte,gE]
    rw[hrd]
    clear hrd
    generalize (((sb s).drop f).takeWhile dK).take 4=t at *
    simp only[hsl,h5,aA,seval]
    refine(XI (ba t) hdg (by show t.length≤4;omega) _).to ?_
    have hn:=aL2 hdg (by omega)
    rw[show sb (ba t)=t from rfl]
    generalize iL t=nd at *
    obtain⟨n,ok⟩:=nd
    simp only at hn ⊢
    have hw5:=bL (n:=0 - (n:Int))
    have hw6:=bL (n:= -(n:Int))
    have hfa:((f:Int)<(f:Int))=False:=bU (by omega)
    have hfn:(f<f)=False:=bU (by omega)
    cases ok
    case false=>
     simp only[aK,aA,seval,BO]
     refine⟨?_,(aL.refl _).aC hb⟩
     rw[aJ (Or.inl trivial)]
     simp only[A2,aU,jC,iT,jN,k8,k7,aZ,aV,aV]
    by_cases hz:(n:Int)=0
    case' pos=>have hz':n=0:=by omega
    case' neg=>have hz':n≠0:=by omega
    all_goals
     by_cases h9:(999:Int)<(n:Int)
     case' pos=>have h9':999<n:=by omega
     case' neg=>have h9':¬ 999<n:=by omega
     all_goals try (exfalso;omega)
     all_goals
      simp only[aK,hz,h9,hfa,aA,seval,BO]
      try
       refine(CV _ _).to ?_
       simp only[aK,aA,seval,BO]
      refine⟨?_,(aL.refl _).aC hb⟩
      first
       | rw[aJ (by omega)]
       | rw[aF (by omega),aJ (by omega),show f+t.length=j by omega]
       | rw[aF (by omega),aF (by omega),show f+t.length=j by omega]
      simp only[A2,aU,jC,iT,jN,k8,nG,k7,aZ,aV,aV]
def A0(o:Option (ByteArray×Nat)):AV:=match o with | some (b,e)=>.tup [.str b,.int .i64 (e:Int)] | none=>.tup [.str ⟨#[]⟩,.int .i64 (-1)]
theorem aTY(st:aB):aD prog 346 [] st (fun r st'=>r=.slice (jB.map .str)∧st'=st):=aD.done ((XQ st).mono (by rintro _ _ ⟨rfl,rfl⟩;exact⟨rfl,aL.refl _⟩))
abbrev BP:=zi aX (zi cJ mA)
set_option maxHeartbeats 1000000 in
theorem OX(s:ByteArray)(hs:s.size≤1000)(a:Nat)(ha:a≤s.size)(st:aB):aD prog 354 [.str s,.int .i64 (a:Int)] st (fun r st'=>r=A0 (oR (sb s) a)∧st'=st):=by
 refine wF [1000000] 2 func354 ntmps354 rfl rfl ?_
 intro _
 simp only[aA,seval]
 refine iG (σ:=Nat) [1000000] [0,1,4,5] (fun j=>a≤j∧j - a≤(((sb s).drop a).takeWhile letter).length) (fun j=>[(6,.int .i64 (j:Int))]) (fun _=>st) (fun j=>s.size - j) (by decide +kernel) ⟨a,⟨by omega,by omega⟩,aN.mk (by simp only[aA,seval])⟩ ?_
 rintro j ⟨hj1,hj⟩
 have hfi:j≤s.size:=by have:=IP letter ((sb s).drop a);rw[mZ,cQ] at this;omega
 simp only[aA,seval]
 refine(aLX s j _).to ?_
 have hw6:=bL (n:=(a:Int)+6)
 have G2:=bL (n:=(j:Int)+1)
 simp only[aA,seval]
 refine aP (fun h5=>?_) (fun h5=>?_)
 · have hlt:=a2C h5
   rw[show j=a+(j - a) by omega,←DS] at h5
   simp only[G2,aA,seval]
   exact⟨j+1,by rw[cQ] at hlt;omega,⟨by omega,by have:=UH hj h5;omega⟩,aN.mk (by simp only[aA,seval]<;>rfl)⟩
 rw[show j=a+(j - a) by omega,←DS] at h5
 have he:=UG hj h5
 have hex:s.extract a j=ba (((sb s).drop a).takeWhile letter):=by rw[FV,he,aPH]
 have hsl:=fun(φ:AF) (y z:Operand) (h:φ.eval y=.int .i64 (a:Int)) (h':φ.eval z=.int .i64 (j:Int))=>HP (s:=s) h h' hj1 hfi
 rw[hex] at hsl
 simp only[hw6,aA,seval]
 refine aP (fun h6=>?_) (fun h6=>?_)
 · simp only[bO] at h6
   simp only[aA,seval]
   unfold oR
   rw[aJ (by omega)]
   try rfl
 simp only[dB] at h6
 simp only[aA,seval]
 refine aP (fun h7=>?_) (fun h7=>?_)
 · simp only[bO] at h7
   simp only[hsl,aA,seval]
   unfold oR
   rw[aF (by omega),aJ (by omega),←he,show a+(j - a)=j by omega]
   try rfl
 simp only[dB] at h7
 obtain rfl:j=a:=by omega
 have hrd:oR (sb s) j=if(jB.foldl (kE ((sb s).drop j)) ⟨#[]⟩).size=0 then none else some (jB.foldl (kE ((sb s).drop j)) ⟨#[]⟩,j+(jB.foldl (kE ((sb s).drop j)) ⟨#[]⟩).size):=by
  unfold oR
  rw[aF (by omega),aF (by omega)]
 rw[hrd]
 clear hrd
 simp only[aA,seval]
 refine(aTY _).to ?_
 simp only[aA,seval]
 refine iG (σ:=Nat) [1000000] [0,1,4,5,8] (fun i=>i≤jB.length) (fun i=>[(7,.str ((jB.take i).foldl (kE ((sb s).drop j)) ⟨#[]⟩)),(9,.int .i64 (i:Int))]) (fun _=>st) (fun i=>jB.length - i) (by decide +kernel) ⟨0,by omega,aN.mk (by simp only[jG,List.foldl_nil,aA,↓aR,seval])⟩ ?_
 intro i hi
 have hbl:=aR4 ((sb s).drop j) i
 simp only[aE,aA,seval,BP]
 refine aP (fun h8=>?_) (fun h8=>?_)
 case refine_2=>
  simp only[dB] at h8
  rw[show i=jB.length by omega,dW] at hbl ⊢
  generalize jB.foldl (kE ((sb s).drop j)) ⟨#[]⟩=g at *
  have hw7:=bL (n:=(j:Int)+(g.size:Int))
  simp only[aA,seval]
  refine aP (fun h9=>?_) (fun h9=>?_)
  · simp only[bO] at h9
    subst h9
    simp only[aA,seval]
    rfl
  · simp only[dB] at h9
    simp only[hw7,aA,seval,BP]
    rw[aF fun h=>h9 (aR0 h)]
    try rfl
 simp only[bO] at h8
 obtain⟨g,hg⟩:∃g,jB[i]?=some g:=⟨_,eN (by omega)⟩
 have hat:=bD (av:=AV.str) qC hg rfl
 have hgl:=aM9 g (cD hg)
 have h15:jB.length=15:=rfl
 obtain⟨m,hm⟩:∃m,m=j+g.size:=⟨_,rfl⟩
 have hwn:=mW (x:=(j:Int)+(g.size:Int)) (m:=m) (by omega) (by omega)
 have hw1:=bL (n:=(i:Int)+1)
 have gA:(jB.take (i+1)).foldl (kE ((sb s).drop j)) ⟨#[]⟩=kE ((sb s).drop j) ((jB.take i).foldl (kE ((sb s).drop j)) ⟨#[]⟩) g:=by
  rw[eA,hg,I5];try rfl
 generalize hB:(jB.take i).foldl (kE ((sb s).drop j)) ⟨#[]⟩=B at *
 simp only[hat,aA,seval,BP]
 refine wP [(0,1),(1,1),(2,1),(3,1),(4,1),(5,1),(6,1),(7,1),(8,1),(9,1),(10,1),(11,1),(12,1),(13,1),(14,1),(15,1),(16,2),(17,1),(18,1),(19,1),(20,1),(21,1),(22,1),(23,1),(24,1)] [0,1,2,3,4,5,6,7,8,9,10,11,12,13,14,15,16,17,18,19,20,21,22,23,24] mixed ?_
 by_cases hle:m≤s.size
 · have hex:s.extract j m=ba (((sb s).drop j).take g.size):=by rw[FV,hm,Nat.add_sub_cancel_left]
   have hsl:=fun(φ:AF) (y z:Operand) (h:φ.eval y=.int .i64 (j:Int)) (h':φ.eval z=.int .i64 (m:Int))=>HP (s:=s) h h' (by omega) hle
   rw[hex] at hsl
   have GT:((m:Int)≤(s.size:Int))=True:=cK (by omega)
   by_cases heq:ba (((sb s).drop j).take g.size)=g
   · by_cases hlt:B.size<g.size
     · have bH:((B.size:Int)<(g.size:Int))=True:=cK (by omega)
       have hb:kE ((sb s).drop j) B g=g:=by unfold kE;rw[aJ ⟨fE sb heq,hlt⟩]
       simp only[hat,hwn,hw1,GT,hsl,heq,bH,bF,aA,seval,BP]
       exact⟨i+1,by omega,by omega,aN.mk (by simp only[gA,hb,aA,seval])⟩
     · have bH:((B.size:Int)<(g.size:Int))=False:=bU (by omega)
       have hb:kE ((sb s).drop j) B g=B:=by unfold kE;rw[aF fun h=>hlt h.2]
       simp only[hat,hwn,hw1,GT,hsl,heq,bH,bF,bP,aA,seval,BP]
       exact⟨i+1,by omega,by omega,aN.mk (by simp only[gA,hb,aA,seval])⟩
   · have hb:kE ((sb s).drop j) B g=B:=by unfold kE;rw[aF fun h=>heq (by rw[h.1])]
     simp only[hat,hwn,hw1,GT,hsl,heq,bF,bP,aA,seval,BP]
     exact⟨i+1,by omega,by omega,aN.mk (by simp only[gA,hb,aA,seval])⟩
 · have GT:((m:Int)≤(s.size:Int))=False:=bU (by omega)
   have hb:kE ((sb s).drop j) B g=B:=by
    unfold kE
    rw[aF]
    rintro⟨h,_⟩
    have:=fE List.length h
    rw[dC,mZ,cQ,cQ] at this
    omega
   simp only[hwn,hw1,GT,bP,aA,seval,BP]
   exact⟨i+1,by omega,by omega,aN.mk (by simp only[gA,hb,aA,seval])⟩
def lH(a:Int):AV:=.tup [IK.av,.int .i64 (-1 - a)]
abbrev a6Y:=zi aX bQ
theorem CW(a:Nat)(ha:a≤1048576)(st:aB):aD prog 351 [.int .i64 (a:Int)] st (fun r st'=>r=lH a∧st'=st):=by
 refine aD.done ?_
 refine wF [1000000] 1 func351 ntmps351 rfl rfl ?_
 intro _
 have hw:=bL (n:= -1 - (a:Int))
 simp only[aK,hw,aA,seval,a6Y]
 intro b hb
 exact⟨by simp only[lH,aU,jC,iT,jN,k8,k7,aZ,aV,aV],(aL.refl _).aC hb⟩
def R8(a:Nat)(o:Option (ByteArray×Nat)):AV:=match o with | some (b,e)=>.tup [.str b,.int .i64 (e:Int)] | none=>.tup [.str ⟨#[]⟩,.int .i64 (a:Int)]
abbrev EO:=zi aX (zi bZ (zi kU (zi y6 cJ)))
set_option maxHeartbeats 1000000 in
theorem aT6(s:ByteArray)(hs:s.size≤1000)(a:Nat)(ha:a≤s.size)(st:aB):aD prog 327 [.str s,.int .i64 (a:Int)] st (fun r st'=>r=R8 a (qU (sb s) a)∧st'=st):=by
 refine wF [1000000] 2 func327 ntmps327 rfl rfl ?_
 intro _
 simp only[aA,seval]
 refine(k0 s a 32 _).to ?_
 obtain⟨f1,hf1⟩:∃f,f=a+1:=⟨_,rfl⟩
 have hw1:=mW (x:=(a:Int)+1) (m:=f1) (by omega) (by omega)
 simp only[aA,seval]
 refine aP (fun h1=>?_) (fun h1=>?_)
 · have hf:=oN h1
   rw[cQ] at hf
   simp only[hw1,aA,seval,EO]
   obtain⟨f,rfl⟩:∃f,f=f1:=⟨_,rfl⟩
   replace hf:f≤s.size:=by omega
   by_cases hlen:s.size≤f
   case pos=>
    have hrd:qU (sb s) a=none:=by
     unfold qU
     simp only[h1,↓reduceIte,←hf1]
     rw[aJ (by rw[cQ];exact hlen)]
    rw[hrd]
    have cF:((s.size:Int)≤(f:Int))=True:=cK (by omega)
    simp only[cF,bF,aA,seval]
    rfl
   have cF:((s.size:Int)≤(f:Int))=False:=bU (by omega)
   have hrd:qU (sb s) a=match oR (sb s) f with
    | none=>none
    | some (nm,e)=>if bY nm=0 then none else if iN nm≠decide (a<f)∨(iN nm=true∧cT (sb s) e 32=false) then none else some (nm,if iN nm then e+1 else e):=by
    unfold qU
    simp only[h1,↓reduceIte,←hf1]
    rw[aF (by rw[cQ];exact hlen)]
    try rfl
   rw[hrd]
   clear hrd
   have hfa:((a:Int)<(f:Int))=True:=cK (by omega)
   have hfn:(a<f)=True:=cK (by omega)
   simp only[cF,bP,aA,seval]
   refine(OX s hs f (by omega) _).to ?_
   cases hn:oR (sb s) f with
   | none=>
    simp only[A0]
    simp only[bF,aA,seval]
    rfl
   | some p=>
    obtain⟨nm,e⟩:=p
    have he:=HH (by rw[cQ];omega) hn
    rw[cQ] at he
    simp only[A0]
    have he0:((e:Int)<0)=False:=bU (by omega)
    simp only[he0,bP,aA,seval]
    refine(vS nm _).to ?_
    by_cases hl0:bY nm=0
    case pos=>
     rw[aJ hl0]
     have pI:((bY nm:Int)=0)=True:=cK (by omega)
     simp only[pI,bF,aA,seval]
     rfl
    rw[aF hl0]
    have pI:((bY nm:Int)=0)=False:=bU (by omega)
    simp only[hfn,bF]
    have hw1:=bL (n:=(e:Int)+1)
    by_cases hi:nm=⟨#[105,115]⟩
    case' pos=>
     have hi':=cK hi
     have hm':(nm=⟨#[109,111,100]⟩)=False:=bU (by rw[hi];decide)
     have hW:iN nm=true:=by unfold iN;rw[eH hi];try rfl
    case' neg=>
     have hi':=bU hi
     by_cases hm:nm=⟨#[109,111,100]⟩
     case' pos=>
      have hm':=cK hm
      have hW:iN nm=true:=by unfold iN;rw[eH hm];exact xA _
     case' neg=>
      have hm':=bU hm
      have hW:iN nm=false:=by unfold iN;rw[d6 hm,d6 hi];try rfl
    all_goals
     rw[hW]
     simp only[pI,hfa,hi',hm',bF,bP,aA,seval,EO]
     first
      | (rw[aJ (Or.inl trivial)];rfl)
      | (rw[aF fun h=>h.1];rfl)
      | skip
     try
      refine(k0 s e 32 _).to ?_
      cases hb:cT (sb s) e 32 with
      | false=>
       simp only[aA,seval]
       rfl
      | true=>
       simp only[hw1,aA,seval]
       rfl
 · skip
   simp only[aA,seval,EO]
   obtain⟨f,rfl⟩:∃f,f=a:=⟨_,rfl⟩
   have hf:=ha
   by_cases hlen:s.size≤f
   case pos=>
    have hrd:qU (sb s) f=none:=by
     unfold qU
     simp only[h1,↓reduceIte,gE]
     rw[aJ (by rw[cQ];exact hlen)]
    rw[hrd]
    have cF:((s.size:Int)≤(f:Int))=True:=cK (by omega)
    simp only[cF,bF,aA,seval]
    rfl
   have cF:((s.size:Int)≤(f:Int))=False:=bU (by omega)
   have hrd:qU (sb s) f=match oR (sb s) f with
    | none=>none
    | some (nm,e)=>if bY nm=0 then none else if iN nm≠decide (f<f)∨(iN nm=true∧cT (sb s) e 32=false) then none else some (nm,if iN nm then e+1 else e):=by
    unfold qU
    simp only[h1,↓reduceIte,gE]
    rw[aF (by rw[cQ];exact hlen)]
    try rfl
   rw[hrd]
   clear hrd
   have hfa:((f:Int)<(f:Int))=False:=bU (by omega)
   have hfn:(f<f)=False:=bU (by omega)
   simp only[cF,bP,aA,seval]
   refine(OX s hs f (by omega) _).to ?_
   cases hn:oR (sb s) f with
   | none=>
    simp only[A0]
    simp only[bF,aA,seval]
    rfl
   | some p=>
    obtain⟨nm,e⟩:=p
    have he:=HH (by rw[cQ];omega) hn
    rw[cQ] at he
    simp only[A0]
    have he0:((e:Int)<0)=False:=bU (by omega)
    simp only[he0,bP,aA,seval]
    refine(vS nm _).to ?_
    by_cases hl0:bY nm=0
    case pos=>
     rw[aJ hl0]
     have pI:((bY nm:Int)=0)=True:=cK (by omega)
     simp only[pI,bF,aA,seval]
     rfl
    rw[aF hl0]
    have pI:((bY nm:Int)=0)=False:=bU (by omega)
    simp only[hfn,bP]
    have hw1:=bL (n:=(e:Int)+1)
    by_cases hi:nm=⟨#[105,115]⟩
    case' pos=>
     have hi':=cK hi
     have hm':(nm=⟨#[109,111,100]⟩)=False:=bU (by rw[hi];decide)
     have hW:iN nm=true:=by unfold iN;rw[eH hi];try rfl
    case' neg=>
     have hi':=bU hi
     by_cases hm:nm=⟨#[109,111,100]⟩
     case' pos=>
      have hm':=cK hm
      have hW:iN nm=true:=by unfold iN;rw[eH hm];exact xA _
     case' neg=>
      have hm':=bU hm
      have hW:iN nm=false:=by unfold iN;rw[d6 hm,d6 hi];try rfl
    all_goals
     rw[hW]
     simp only[pI,hfa,hi',hm',bF,bP,aA,seval,EO]
     first
      | (rw[aJ (Or.inl trivial)];rfl)
      | (rw[aF fun h=>h.1];rfl)
      | skip
     try
      refine(k0 s e 32 _).to ?_
      cases hb:cT (sb s) e 32 with
      | false=>
       simp only[pI,hfa,hi',hm',hw1,bF,bP,aA,↓aR,seval,EO]
       rfl
      | true=>
       simp only[pI,hfa,hi',hm',hw1,bF,bP,aA,↓aR,seval,EO]
       rfl
theorem aV1{ts:List Tm}{i:Nat}{x t:Tm}(hx:ts[i]?=some x):vU (ts.drop i) t=oO ⟨#[46]⟩ [x,vU (ts.drop (i+1)) t]:=by
 obtain⟨h1,h2⟩:=gS.1 hx
 rw[rF h1,h2]
 try rfl
abbrev MQ:=zi aX (zi cJ (zi bS (zi T9 bQ)))
set_option maxHeartbeats 1000000 in
theorem XL(ts:List Tm)(tl:Tm)(hl:ts.length≤1048576)(st:aB):aD prog 365 [.slice (ts.map Tm.av),tl.av] st (fun r st'=>r=(vU ts tl).av∧st'=st):=by
 refine aD.done ?_
 refine wF [1000000,5] 2 func365 ntmps365 rfl rfl ?_
 intro _
 have hw0:=bL (n:=(ts.length:Int) - 1)
 simp only[aK,aT,aH,bT,cC,bR,aE,hw0,aA,↓aR,seval,MQ]
 intro b hb b5 hb5
 have hbb:b5≠b:=fun h=>by rw[h,aB.aO] at hb5;cases hb5
 refine iG (σ:=Nat) [1000000] [0,4,5] (fun i=>i≤ts.length) (fun i=>[(6,.int .i64 ((i:Int) - 1))]) (fun i=>(st.aC b (.cells [.int .i64 0,.int .i64 0,.str ⟨#[]⟩,.fslice []])).aC b5 (.cells (vU (ts.drop i) tl).av.cells)) (fun i=>i) (by decide +kernel) ⟨ts.length,by omega,by rw[j4];exact aN.mk (by simp only[aA,seval])⟩ ?_
 intro i hi
 simp only[aA,seval]
 refine aP (fun h1=>?_) (fun h1=>?_)
 · simp only[bO] at h1
   obtain⟨k,rfl⟩:∃k,i=k+1:=⟨i - 1,by omega⟩
   obtain⟨x,hx⟩:∃x,ts[k]?=some x:=⟨_,eN (by omega)⟩
   have hk:((k+1:Nat):Int) - 1=(k:Int):=by omega
   have hw:=bL (n:=(k:Int) - 1)
   have hst:=aV1 (t:=tl) hx
   have hat:=bD (av:=Tm.av) a8 hx (aH x)
   rw[hk]
   generalize vU (ts.drop (k+1)) tl=y at *
   have hax:=bR x
   have hay:=bR y
   simp only[aA,seval]
   refine wP [(0,1),(1,1),(2,1),(3,2),(4,2),(5,1),(6,2),(7,0)] [0,1,2,3,4,5,6] mixed ?_
   simp only[aT,aH,cC,bR,eJ (bR _),eE (aT _),hat,aA,seval,MQ]
   refine fK (sS ⟨#[46]⟩ [x,y] (by simp) _) ?_
   simp only[aK,bT,bR,hw,aA,seval,MQ]
   refine⟨k,by omega,by omega,?_⟩
   rw[hst]
   exact aN.mk (by simp only[aA,seval])
 · simp only[dB] at h1
   obtain rfl:i=0:=by omega
   rw[rG]
   simp only[aK,bT,bR,eJ (bR _),eE (aT _),hbb.symm,aA,↓aR,seval,MQ]
   exact⟨Tm.soft _,(((aL.refl _).aC hb).aC (by rwa [aB.aM _ _ hbb] at hb5)).aC hb⟩
def mF(o:Option (Tm×Nat))(r:AV):Prop:=match o with | some (t,e)=>r=.tup [t.av,.int .i64 (e:Int)] | none=>∃k:Nat,k≤1048576∧r=lH k
def vH(o:Option (List Tm×Nat))(r:AV):Prop:=match o with | some (ts,e)=>r=.tup [.slice (ts.map Tm.av),.int .i64 (e:Int)] | none=>∃k:Nat,k≤1048576∧r=.tup [.slice [],.int .i64 (-1 - (k:Int))]
abbrev NZ (s:ByteArray) (R:lE) (d lv lo:Nat):Prop:=∀(a:Nat) (st:aB),lo≤a→a≤s.size→aD prog 282 [.str s,.int .i64 (a:Int),.int .i64 (d:Int),.int .i64 (lv:Int)] st (fun r st'=>mF (R a) r∧st'=st)
abbrev TV:=zi aX (zi bZ (zi kU (zi y6 (zi cJ (zi bS bQ)))))
set_option maxHeartbeats 1000000 in
theorem XX{s:ByteArray}{R:lE}{d lo c1 c2:Nat}(hR:NZ s R d 3 lo)(hok:xK R (sb s))(hs:s.size≤1000)(a:Nat)(ha:lo≤a)(ha':a≤s.size)(st:aB) :
 aD prog 355 [.str s,.int .i64 (a:Int),.int .i64 (d:Int),.int .u8 (c1:Int),.int .u8 (c2:Int)] st (fun r st'=>vH (sF R (sb s) c1 c2 ((sb s).length+1) a []) r∧st'=st):=by
 generalize hT:sF R (sb s) c1 c2 ((sb s).length+1) a []=T
 rw[cQ] at hT
 refine aD.drop (Q:=vH T) (aD.fin ?_)
 refine wF [1000000] 5 func355 ntmps355 rfl rfl ?_
 intro _
 simp only[aA,seval,TV]
 refine iG (σ:=Nat×List Tm×Nat×Nat) [1000000] [0,2,3,4] (fun x=>sF R (sb s) c1 c2 x.2.2.1 x.1 x.2.1=T∧lo≤x.1∧x.1≤s.size∧s.size<x.2.2.1+x.1∧x.2.1.length+x.2.2.1≤1001∧(x.2.1.map Tm.av≠[]→st x.2.2.2=none)) (fun x=>[(1,.int .i64 (x.1:Int)),(10,.fslice []),(11,.int .i64 0),(12,bE 4 x.2.2.2 (x.2.1.map Tm.av))]) (fun x=>a7 st x.2.2.2 (x.2.1.map Tm.av)) (fun x=>x.2.2.1) (by decide +kernel) ⟨(a,[],s.size+1,0),⟨hT,ha,ha',by simp only;omega,by simp only[aW];omega,by simp⟩,aN.mk (by simp only[aV,iK,aA,seval])⟩ ?_
 rintro⟨i,acc,m,b⟩ ⟨ht,hlo,hi,hm,hlen,hb⟩
 simp only at ht hlo hi hm hlen hb ⊢
 obtain⟨m,rfl⟩:∃m',m=m'+1:=⟨m - 1,by omega⟩
 simp only[sF] at ht
 simp only[aA,seval]
 refine(hR i _ hlo hi).mono ?_
 rintro r _ ⟨hr,rfl⟩
 have fin:∀(l:List Tm) (b':Nat) (r':AV),(l.map Tm.av≠[]→st b'=none)→vH T (r'.fin b' (l.map Tm.av))→∃b2 l2 s0,a7 st b' (l.map Tm.av)=a7 s0 b2 l2∧(l2≠[]→s0 b2=none)∧(∀e∈l2,e.cE=false)∧iI l2∧aL s0 st∧vH T (r'.fin b2 l2):=fun l b' r' h1 h2=>⟨b',_,st,rfl,h1,iM _,⟨4,dS _⟩,aL.refl _,h2⟩
 have hTn:T=none→∀k:Nat,k≤1048576→∀(b':Nat) (l:List AV),vH T ((AV.tup [.fslice [],.int .i64 (-1 - (k:Int))]).fin b' l):=by
  rintro rfl k hk b' l
  exact⟨k,hk,by simp only[jS,dZ,nW,aZ,aV]⟩
 cases hRi:R i with
 | none=>
  rw[hRi] at ht hr
  obtain⟨k,hk,rfl⟩:=hr
  have hk0:((-1 - (k:Int))<0)=True:=cK (by omega)
  simp only[aH,bT,cC,hk0,lH,bF,aA,↓aR,seval,TV]
  exact fin _ _ _ hb (hTn ht.symm k hk _ _)
 | some p=>
  obtain⟨t,e⟩:=p
  rw[hRi] at ht hr
  simp only at ht
  obtain⟨g1,g2,g3⟩:=hok i t e (by rw[cQ];exact hi) hRi
  rw[cQ] at g2
  simp only[mF] at hr
  subst hr
  have he0:((e:Int)<0)=False:=bU (by omega)
  simp only[aT,aH,bT,cC,he0,iW,tQ,bP,aA,↓aR,seval,TV]
  refine eD a8 fW fX rfl rfl (eO (aH _) (bT _)) (dS _) hb (by simp only[aE,aS,aW];omega) (by simp only[aE,aS,aW];omega) (fun b' hb'=>?_)
  rw[show acc.map Tm.av++ [t.av]=(acc++ [t]).map Tm.av by simp] at hb' ⊢
  simp only[aA,seval]
  have yD:T=some (acc++ [t],e)→vH T ((AV.tup [bE 4 b' ((acc++ [t]).map Tm.av),.int .i64 (e:Int)]).fin b' ((acc++ [t]).map Tm.av)):=by
   rintro rfl
   simp only[vH,jS,dZ,kF,aZ,aV]
  have hw1:=bL (n:=(e:Int)+1)
  have hw2:=bL (n:= -1 - (e:Int))
  refine(k0 s e c1 _).to ?_
  cases h1:cT (sb s) e c1 with
  | true=>
   rw[h1,vA,aJ rfl] at ht
   simp only[nQ,iW,tQ,aA,seval]
   exact fin _ _ _ hb' (yD ht.symm)
  | false=>
  simp only[aA,seval]
  refine(k0 s e c2 _).to ?_
  cases h2:cT (sb s) e c2 with
  | true=>
   rw[h2,xA,aJ rfl] at ht
   simp only[nQ,iW,tQ,aA,seval]
   exact fin _ _ _ hb' (yD ht.symm)
  | false=>
  rw[h1,h2,BY,aF (by decide)] at ht
  simp only[aA,seval]
  refine(k0 s e 44 _).to ?_
  cases h3:cT (sb s) e 44 with
  | true=>
   have h4:=oN h3
   rw[cQ] at h4
   rw[h3,aJ rfl] at ht
   simp only[hw1,aA,seval]
   refine⟨(e+1,acc++ [t],m,b'),by simp only;omega,⟨ht,by simp only;omega,by simp only;omega,by simp only;omega,by simp only[dM,aS,aW];omega,hb'⟩,aN.mk (by simp only[aA,seval]<;>rfl)⟩
  | false=>
   rw[h3,aF (by decide)] at ht
   simp only[hw2,aA,seval]
   exact fin _ _ _ hb' (hTn ht.symm e (by omega) _ _)
theorem aD.KF{P:Program}{g:FuncId}{args:List AV}{st:aB}{Q:AV→Prop}(x:aD P g args st (fun r' st'=>Q r'.soft∧aL st' st)):aD P g args st (fun r' st'=>Q r'∧st'=st):=
 aD.drop (aD.soft (x.mono fun _ _ h=>⟨h.2,h.1⟩))
theorem D9{k:Nat}(hk:k≤1048576):mF none (AV.tup [.agg [.int .i64 0,.int .i64 0,.str ⟨#[]⟩,.fslice []],.int .i64 (-1 - (k:Int))]).soft:=
 ⟨k,hk,by simp only[lH,aU,jC,iT,jN,k8,k7,aZ,aV]⟩
theorem r8{t:Tm}{e:Nat}{x:Int}(h:x=(e:Int)):mF (some (t,e)) (AV.tup [t.av,.int .i64 x]).soft:=by
 subst h
 simp only[mF,iT,jN,Tm.soft,aZ,aV]
theorem yL{k:Nat}(hk:k≤1048576):mF none (AV.tup [IK.av,.int .i64 (-1 - (k:Int))]).soft:=
 ⟨k,hk,by simp only[lH,iT,jN,Tm.soft,aZ,aV]⟩
abbrev yX:=zi aX (zi bZ (zi kU (zi y6 (zi cJ (zi bS (zi bQ (zi a66 a62)))))))
set_option maxHeartbeats 1000000 in
theorem aT3{s:ByteArray}{R:lE}{d lo:Nat}(hR:NZ s R d 3 lo)(hok:xK R (sb s))(hs:s.size≤1000)(a:Nat)(ha:lo≤a)(ha':a≤s.size)(st:aB) :
 aD prog 352 [.str s,.int .i64 (a:Int),.int .i64 (d:Int)] st (fun r st'=>mF (AU R (sb s) a) r∧st'=st):=by
 refine aD.KF ?_
 refine wF [1000000] 3 func352 ntmps352 rfl rfl ?_
 intro _
 simp only[aA,seval,yX]
 intro b hb
 unfold AU
 refine(XX hR hok hs a ha ha' _ (c1:=93) (c2:=124)).mono ?_
 rintro r _ ⟨hr,rfl⟩
 have hD:=fun(o:AO)=>(aL.refl st).aC (o:=o) hb
 cases hT:sF R (sb s) 93 124 ((sb s).length+1) a [] with
 | none=>
  rw[hT] at hr
  obtain⟨k,hk,rfl⟩:=hr
  have hk0:((-1 - (k:Int))<0)=True:=cK (by omega)
  simp only[aK,hk0,bF,aA,seval,yX]
  exact⟨D9 hk,hD _⟩
 | some p=>
  obtain⟨ts,e⟩:=p
  rw[hT] at hr
  simp only[vH] at hr
  subst hr
  obtain⟨g1,g2,g3,g4,g5⟩:=M1 hok _ _ _ _ _ (by rw[cQ];exact ha') (by simp) hT
  rw[cQ] at g2 g4
  rw[aW] at g4
  have he0:((e:Int)<0)=False:=bU (by omega)
  obtain⟨f,hf⟩:∃f,f=e+1:=⟨_,rfl⟩
  have hw:=mW (x:=(e:Int)+1) (m:=f) (by omega) (by omega)
  simp only[he0,bP,aA,seval]
  refine(k0 s e 93 _).to ?_
  cases h1:cT (sb s) e 93 with
  | true=>
   simp only[aA,seval]
   refine(sS ⟨#[91,93]⟩ [] (by simp) _).to ?_
   simp only[aA,seval]
   refine(XL ts (oO ⟨#[91,93]⟩ []) (by omega) _).to ?_
   simp only[aK,bT,cC,bR,eJ (bR _),eE (aT _),hw,aA,seval,yX]
   exact⟨r8 (by omega),hD _⟩
  | false=>
   simp only[hw,aA,seval]
   refine(hR f _ (by omega) (by omega)).mono ?_
   rintro r _ ⟨hr,rfl⟩
   rw[←hf]
   cases hRi:R f with
   | none=>
    rw[hRi] at hr
    obtain⟨k,hk,rfl⟩:=hr
    have hk0:((-1 - (k:Int))<0)=True:=cK (by omega)
    simp only[aK,aH,bT,cC,hk0,lH,bF,aA,↓aR,seval,yX]
    exact⟨D9 hk,hD _⟩
   | some p=>
    obtain⟨t,e2⟩:=p
    rw[hRi] at hr
    simp only[mF] at hr
    subst hr
    obtain⟨k1,k2,k3⟩:=hok f t e2 (by rw[cQ];omega) hRi
    rw[cQ] at k2
    have he2:((e2:Int)<0)=False:=bU (by omega)
    have hw2:=bL (n:=(e2:Int)+1)
    simp only[aH,bT,cC,he2,bP,aA,↓aR,seval,yX]
    refine(k0 s e2 93 _).to ?_
    cases h2:cT (sb s) e2 93 with
    | true=>
     simp only[aT,aH,aA,seval,yX]
     refine(XL ts t (by omega) _).to ?_
     simp only[aK,bT,cC,bR,eJ (bR _),eE (aT _),hw2,aA,seval,yX]
     exact⟨r8 rfl,hD _⟩
    | false=>
     simp only[aA,seval]
     refine(CW e2 (by omega) _).to ?_
     simp only[aK,bT,cC,bR,eJ (bR _),eE (aT _),lH,aA,seval,yX]
     exact⟨yL (by omega),hD _⟩
theorem a4D{R:Nat→lE}{l:List UInt8}{d a:Nat}(h:d<1∨l.length≤a):nD R l d a=none:=by unfold nD;rw[aJ h]
theorem a4E{R:Nat→lE}{l:List UInt8}{d a:Nat}(h:¬(d<1∨l.length≤a))(h1:cT l a 40=true):nD R l d a=match R d (a+1) with
 | none=>none
 | some (t,e)=>if cT l e 41 then some (t,e+1) else none:=by unfold nD;rw[aF h,aJ h1];try rfl
theorem a4A{R:Nat→lE}{l:List UInt8}{d a:Nat}(h:¬(d<1∨l.length≤a))(h1:cT l a 40=false)(h2:cT l a 91=true)(h3:cT l (a+1) 93=false):nD R l d a=AU (R (d - 1)) l (a+1):=by
 unfold nD;rw[aF h,aF (by simp [h1]),aJ (by simp [h2,h3])]
theorem a4F{R:Nat→lE}{l:List UInt8}{d a:Nat}(h:¬(d<1∨l.length≤a))(h1:cT l a 40=false)(h2:(cT l a 91&& !cT l (a+1) 93)=false)(h3:gD l a rC=true):nD R l d a=some (vr ((JU l a - 65:Nat):Int),a+1):=by
 unfold nD;rw[aF h,aF (by simp [h1]),aF (by simp [h2]),aJ h3]
theorem a4C{R:Nat→lE}{l:List UInt8}{d a:Nat}(h:¬(d<1∨l.length≤a))(h1:cT l a 40=false)(h2:(cT l a 91&& !cT l (a+1) 93)=false)(h3:gD l a rC=false)(h4:(gD l a dK||(cT l a 45&&gD l (a+1) dK))=true):nD R l d a=match uU l a with
 | none=>none
 | some (n,e)=>some (.mk 2 n ⟨#[]⟩ [],e):=by
 unfold nD;rw[aF h,aF (by simp [h1]),aF (by simp [h2]),aF (by simp [h3]),aJ h4];try rfl
theorem a4B{R:Nat→lE}{l:List UInt8}{d a:Nat}(h:¬(d<1∨l.length≤a))(h1:cT l a 40=false)(h2:(cT l a 91&& !cT l (a+1) 93)=false)(h3:gD l a rC=false)(h4:(gD l a dK||(cT l a 45&&gD l (a+1) dK))=false):nD R l d a=match oR l a with
 | none=>none
 | some (nm,e)=>if cT l e 40=false then some (oO nm [],e) else match sF (R (d - 1)) l 41 41 (l.length+1) (e+1) [] with
  | none=>none
  | some (ts,e')=>some (oO nm ts,e'+1):=by
 unfold nD;rw[aF h,aF (by simp [h1]),aF (by simp [h2]),aF (by simp [h3]),aF (by simp [h4])];try rfl
abbrev kK:=zi aX (zi bZ (zi kU (zi y6 (zi cJ (zi bS bQ)))))
set_option maxHeartbeats 2000000 in
theorem aT8{s:ByteArray}{R:Nat→lE}{a:Nat}(hR:∀d,d≤1048576→NZ s (R d) d 3 (a+1))(hok:∀d,xK (R d) (sb s))(hs:s.size≤1000)(ha:a≤s.size)(d:Nat)(hd:d≤1048576)(st:aB) :
 aD prog 326 [.str s,.int .i64 (a:Int),.int .i64 (d:Int)] st (fun r st'=>mF (nD R (sb s) d a) r∧st'=st):=by
 refine aD.KF ?_
 refine wF [1000000] 3 func326 ntmps326 rfl rfl ?_
 intro _
 generalize hP:nD R (sb s) d a=o
 simp only[aA,seval,kK]
 intro b hb
 have hD:=fun(o:AO)=>(aL.refl st).aC (o:=o) hb
 by_cases h0:d<1∨s.size≤a
 case pos=>
  rw[a4D (by rw[cQ];exact h0)] at hP
  subst hP
  by_cases h01:d<1
  case pos=>
   have wB:((d:Int)<1)=True:=cK (by omega)
   simp only[wB,bF,aA,seval]
   refine(CW a (by omega) _).to ?_
   simp only[aK,bT,cC,bR,eJ (bR _),eE (aT _),lH,aA,seval,kK]
   exact⟨yL (by omega),hD _⟩
  case neg=>
   have wB:((d:Int)<1)=False:=bU (by omega)
   have AG:((s.size:Int)≤(a:Int))=True:=cK (by omega)
   simp only[wB,AG,bF,bP,aA,seval,kK]
   refine(CW a (by omega) _).to ?_
   simp only[aK,bT,cC,bR,eJ (bR _),eE (aT _),lH,aA,seval,kK]
   exact⟨yL (by omega),hD _⟩
 have h0':¬(d<1∨(sb s).length≤a):=by rw[cQ];exact h0
 have wB:((d:Int)<1)=False:=bU (by omega)
 have AG:((s.size:Int)≤(a:Int))=False:=bU (by omega)
 obtain⟨x,hx⟩:=uD (s:=s) (n:=a) (by omega)
 have hix:=rZ (P:=prog) (t:=9) rB hx
 obtain⟨f,hf⟩:∃f,f=a+1:=⟨_,rfl⟩
 have hw:=mW (x:=(a:Int)+1) (m:=f) (by omega) (by omega)
 obtain⟨d1,hd1⟩:∃d1,d1=d - 1:=⟨_,rfl⟩
 have hwd:=mW (x:=(d:Int) - 1) (m:=d1) (by omega) (by omega)
 by_cases h40:x.toNat=40
 case pos=>
  rw[a4E h0' (by rw[qO hx,h40];try rfl),←hf] at hP
  have DC:((x.toNat:Int)=40)=True:=cK (by omega)
  simp only[wB,AG,hix,DC,hw,bF,bP,aA,seval,kK]
  refine(hR d hd f _ (by omega) (by omega)).mono ?_
  rintro r _ ⟨hr,rfl⟩
  cases hRi:R d f with
  | none=>
   rw[hRi] at hr hP
   subst hP
   obtain⟨k,hk,rfl⟩:=hr
   have hk0:((-1 - (k:Int))<0)=True:=cK (by omega)
   simp only[aK,aH,bT,cC,hk0,lH,bF,aA,↓aR,seval,kK]
   exact⟨D9 hk,hD _⟩
  | some p=>
   obtain⟨t,e2⟩:=p
   rw[hRi] at hr hP
   simp only[mF] at hr
   subst hr
   obtain⟨k1,k2,k3⟩:=hok d f t e2 (by rw[cQ];omega) hRi
   rw[cQ] at k2
   have he2:((e2:Int)<0)=False:=bU (by omega)
   have hw2:=bL (n:=(e2:Int)+1)
   simp only[aH,bT,cC,he2,bP,aA,↓aR,seval,kK]
   refine(k0 s e2 41 _).to ?_
   cases h2:cT (sb s) e2 41 with
   | true=>
    simp only[h2,↓reduceIte] at hP
    subst hP
    simp only[aK,aT,aH,bT,cC,bR,eJ (bR _),eE (aT _),hw2,aA,seval,kK]
    exact⟨r8 rfl,hD _⟩
   | false=>
    simp only[h2,↓reduceIte,gE] at hP
    subst hP
    simp only[aA,seval]
    refine(CW e2 (by omega) _).to ?_
    simp only[aK,bT,cC,bR,eJ (bR _),eE (aT _),lH,aA,seval,kK]
    exact⟨yL (by omega),hD _⟩
 have g40:cT (sb s) a 40=false:=by rw[qO hx];exact d6 h40
 have DC:((x.toNat:Int)=40)=False:=bU (by omega)
 -- a list
 by_cases hL:x.toNat=91∧cT (sb s) f 93=false
 case pos=>
  obtain⟨h91,h93⟩:=hL
  rw[a4A h0' g40 (by rw[qO hx,h91];try rfl) (by rw[←hf];exact h93),←hf,←hd1] at hP
  subst hP
  have s8:((x.toNat:Int)=91)=True:=cK (by omega)
  simp only[wB,AG,hix,DC,s8,hw,bF,bP,aA,seval,kK]
  refine(k0 s f 93 _).to ?_
  rw[h93]
  simp only[hw,hwd,aA,seval]
  refine(aT3 (hR d1 (by omega)) (hok d1) hs f (by omega) (by omega) _).mono ?_
  rintro r _ ⟨hr,rfl⟩
  cases hI:AU (R d1) (sb s) f with
  | none=>
   rw[hI] at hr
   obtain⟨k,hk,rfl⟩:=hr
   simp only[aK,bT,cC,bR,eJ (bR _),eE (aT _),lH,aA,seval,kK]
   exact⟨yL hk,hD _⟩
  | some p=>
   obtain⟨t,e2⟩:=p
   rw[hI] at hr
   simp only[mF] at hr
   subst hr
   simp only[aK,bT,cC,bR,eJ (bR _),eE (aT _),aA,seval,kK]
   exact⟨r8 rfl,hD _⟩
 have gL:(cT (sb s) a 91&& !cT (sb s) (a+1) 93)=false:=by
  rw[←hf,qO hx]
  rcases Nat.decEq x.toNat 91 with h | h
  · rw[d6 h,fB]
  · rw[eH h,dU]
    cases h93:cT (sb s) f 93 with
    | true=>rfl
    | false=>exact absurd ⟨h,h93⟩ hL
 by_cases hU:rC x=true
 case pos=>
  have hP':=a4F (R:=R) h0' g40 gL (by rw[uR hx];exact hU)
  rw[hP'] at hP
  subst hP
  have hbn:JU (sb s) a=x.toNat:=by unfold JU;rw[hx]
  simp only[rC,cB,bO] at hU
  have s8:((x.toNat:Int)=91)=False:=bU (by omega)
  have h65:((65:Int)≤(x.toNat:Int))=True:=cK (by omega)
  have h90:((x.toNat:Int)≤90)=True:=cK (by omega)
  obtain⟨y,hy⟩:∃y,y=x.toNat - 65:=⟨_,rfl⟩
  have hw2:IntKind.wrap .u8 ((x.toNat:Int) - 65)=(y:Int):=by rw[IntKind.wrap_u8];omega
  have hw3:=bL (n:=(y:Int))
  simp only[wB,AG,hix,DC,s8,h65,h90,hw2,hw3,sO,bF,bP,aA,seval,kK]
  refine(J1 (y:Int) _).to ?_
  simp only[aK,bT,cC,bR,eJ (bR _),eE (aT _),hw,aA,seval,kK]
  rw[hbn,←hy,←hf]
  exact⟨r8 rfl,hD _⟩
 have gU:gD (sb s) a rC=false:=by rw[uR hx];simpa using hU
 cases hdg:(gD (sb s) a dK||(cT (sb s) a 45&&gD (sb s) (a+1) dK)) with
 | true=>
  have hP':=a4C (R:=R) h0' g40 gL gU hdg
  rw[hP'] at hP
  by_cases hdx:dK x=true
  case' pos=>have DD:=hdx
  case' neg=>
   have hdx:dK x=false:=by simpa using hdx
   rw[uR hx,hdx,pU,cB,qO hx,bO] at hdg
   have DD:((x.toNat:Int)=45)=True:=cK (by omega)
  all_goals
   by_cases h91:x.toNat=91
   case' pos=>
    have s8:((x.toNat:Int)=91)=True:=cK (by omega)
    have h93:cT (sb s) f 93=true:=by rw[qO hx,eH h91,dU,←hf] at gL;simpa using gL
   case' neg=>
    have s8:((x.toNat:Int)=91)=False:=bU (by omega)
    have h93:=s8
   all_goals
    by_cases h65:65≤x.toNat
    case' pos=>
     have wD:((65:Int)≤(x.toNat:Int))=True:=cK (by omega)
     have AH:((x.toNat:Int)≤90)=False:=bU (by intro h;exact hU (by simp only[rC,cB,bO];omega))
    case' neg=>
     have wD:((65:Int)≤(x.toNat:Int))=False:=bU (by omega)
     have AH:=wD
   all_goals
    simp only[wB,AG,hix,DC,s8,wD,AH,hw,bF,bP,aA,seval,kK]
    try
     refine(k0 s f 93 _).to ?_
     rw[h93]
     simp only[hix,wD,AH,bF,bP,aA,seval]
    refine(AZ s a _).to ?_
    rw[uR hx]
   all_goals
    simp only[hix,hdx,DD,hw,bF,aA,seval]
    try
     refine(AZ s f _).to ?_
     rw[hf,hdg.2]
     simp only[aA,seval]
    refine(aTU s hs a ha _).to ?_
    cases hn:uU (sb s) a with
    | none=>
     rw[hn] at hP
     subst hP
     simp only[aH,bT,cC,A2,bF,aA,↓aR,seval,kK]
     refine(CW a (by omega) _).to ?_
     simp only[aK,bT,cC,bR,eJ (bR _),eE (aT _),lH,aA,seval,kK]
     exact⟨yL (by omega),hD _⟩
    | some p=>
     obtain⟨n,e⟩:=p
     rw[hn] at hP
     subst hP
     have he0:((e:Int)<0)=False:=bU (by omega)
     simp only[aK,aT,aH,bT,cC,bR,eJ (bR _),eE (aT _),A2,he0,bP,aA,↓aR,seval,kK]
     exact⟨r8 rfl,hD _⟩
 | false=>
  have hP':=a4B (R:=R) h0' g40 gL gU hdg
  rw[hP',←hd1] at hP
  rw[uR hx,Bool.or_eq_false_iff,qO hx,←hf] at hdg
  have hdx:=hdg.1
  by_cases h45:x.toNat=45
  case' pos=>
   have DD:((x.toNat:Int)=45)=True:=cK (by omega)
   have hfd:gD (sb s) f dK=false:=by have:=hdg.2;rwa [eH h45,dU] at this
  case' neg=>
   have DD:((x.toNat:Int)=45)=False:=bU (by omega)
   have hfd:=DD
  all_goals
   by_cases h91:x.toNat=91
   case' pos=>
    have s8:((x.toNat:Int)=91)=True:=cK (by omega)
    have h93:cT (sb s) f 93=true:=by rw[qO hx,eH h91,dU,←hf] at gL;simpa using gL
   case' neg=>
    have s8:((x.toNat:Int)=91)=False:=bU (by omega)
    have h93:=s8
   all_goals
    by_cases h65:65≤x.toNat
    case' pos=>
     have wD:((65:Int)≤(x.toNat:Int))=True:=cK (by omega)
     have AH:((x.toNat:Int)≤90)=False:=bU (by intro h;exact hU (by simp only[rC,cB,bO];omega))
    case' neg=>
     have wD:((65:Int)≤(x.toNat:Int))=False:=bU (by omega)
     have AH:=wD
   all_goals
    simp only[wB,AG,hix,DC,s8,wD,AH,hw,bF,bP,aA,seval,kK]
    try
     refine(k0 s f 93 _).to ?_
     rw[h93]
     simp only[hix,wD,AH,bF,bP,aA,seval]
    refine(AZ s a _).to ?_
    rw[uR hx]
   all_goals
    simp only[hix,hdx,DD,hw,bF,bP,aA,seval]
    try
     refine(AZ s f _).to ?_
     rw[hfd]
     simp only[aA,seval]
    refine(OX s hs a ha _).to ?_
    cases hn:oR (sb s) a with
    | none=>
     rw[hn] at hP
     subst hP
     simp only[A0,bF,aA,seval]
     refine(CW a (by omega) _).to ?_
     simp only[aK,bT,cC,bR,eJ (bR _),eE (aT _),lH,aA,seval,kK]
     exact⟨yL (by omega),hD _⟩
    | some p=>
     obtain⟨nm,e⟩:=p
     rw[hn] at hP
     simp only at hP
     have hel:=HH (by rw[cQ];exact ha) hn
     rw[cQ] at hel
     have he0:((e:Int)<0)=False:=bU (by omega)
     obtain⟨f2,hf2⟩:∃f2,f2=e+1:=⟨_,rfl⟩
     have hwe:=mW (x:=(e:Int)+1) (m:=f2) (by omega) (by omega)
     simp only[A0,he0,bP,aA,seval]
     refine(k0 s e 40 _).to ?_
     cases h4:cT (sb s) e 40 with
     | false=>
      rw[aJ h4] at hP
      subst hP
      simp only[aA,seval]
      refine(sS nm [] (by simp) _).to ?_
      simp only[aK,bT,cC,bR,eJ (bR _),eE (aT _),aA,seval,kK]
      exact⟨r8 rfl,hD _⟩
     | true=>
      rw[aF (by simp [h4]),←hf2] at hP
      have h5:=oN h4
      rw[cQ] at h5
      simp only[hwd,hwe,aA,seval]
      refine(XX (hR d1 (by omega)) (hok d1) hs f2 (by omega) (by omega) _ (c1:=41) (c2:=41)).mono ?_
      rintro r _ ⟨hr,rfl⟩
      cases hT:sF (R d1) (sb s) 41 41 ((sb s).length+1) f2 [] with
      | none=>
       rw[hT] at hr hP
       subst hP
       obtain⟨k,hk,rfl⟩:=hr
       have hk0:((-1 - (k:Int))<0)=True:=cK (by omega)
       simp only[aK,hk0,bF,aA,seval,kK]
       exact⟨D9 hk,hD _⟩
      | some p=>
       obtain⟨ts,e3⟩:=p
       rw[hT] at hr hP
       simp only[vH] at hr hP
       subst hr hP
       obtain⟨g1,g2,g3,g4,g5⟩:=M1 (hok d1) _ _ _ _ _ (by rw[cQ];omega) (by simp) hT
       rw[cQ] at g2
       have he3:((e3:Int)<0)=False:=bU (by omega)
       have hw3:=bL (n:=(e3:Int)+1)
       simp only[aK,he3,hw3,bP,aA,seval,kK]
       exact⟨by rw[show(AV.agg [.int .i64 3,.int .i64 0,.str nm,.slice (ts.map Tm.av)])=(oO nm ts).av from (aU ..).symm];exact r8 rfl,hD _⟩
theorem a2T{nm:ByteArray}(h:bY nm≠0):nm≠⟨#[]⟩:=by rintro rfl;exact h (by decide)
abbrev sE:=zi aX (zi cJ (zi bS bQ))
set_option maxHeartbeats 2000000 in
theorem aT9{s:ByteArray}(hs:s.size≤1000):∀(n d a lv:Nat) (st:aB),a≤s.size→lv≤3→d≤1048576→(s.size - a)*4+lv<n →
 aD prog 282 [.str s,.int .i64 (a:Int),.int .i64 (d:Int),.int .i64 (lv:Int)] st (fun r st'=>mF (rd (sb s) n d a lv) r∧st'=st):=by
 intro n
 induction n with
 | zero=>intro d a lv st _ _ _ h;omega
 | succ n IH=>
 intro d a lv st ha hlv hd hn
 have hl1:(sb s).length≤1000:=by rw[cQ];exact hs
 refine aD.KF ?_
 refine wF [1000000,10] 4 func282 ntmps282 rfl rfl ?_
 intro _
 generalize hP:rd (sb s) (n+1) d a lv=o
 simp only[aA,seval,sE]
 intro b hb
 have hD:=fun(o:AO)=>(aL.refl st).aC (o:=o) hb
 cases lv with
 | zero=>
  simp only[rd] at hP
  have h0:(((0:Nat):Int)=0)=True:=cK rfl
  simp only[bF,aA,↓aR,seval]
  refine(aT8 (R:=fun d a=>rd (sb s) n d a 3) (a:=a) (fun d hd a' st' h1 h2=>IH d a' 3 st' h2 (by omega) hd (by omega)) (fun d=>BA hl1 n d 3) hs ha d hd _).mono ?_
  rintro r _ ⟨hr,rfl⟩
  rw[hP] at hr
  cases o with
  | none=>
   obtain⟨k,hk,rfl⟩:=hr
   simp only[aK,bT,cC,bR,eJ (bR _),eE (aT _),lH,aA,seval,sE]
   exact⟨yL hk,hD _⟩
  | some p=>
   obtain⟨t,e⟩:=p
   simp only[mF] at hr
   subst hr
   simp only[aK,bT,cC,bR,eJ (bR _),eE (aT _),aA,seval,sE]
   exact⟨r8 rfl,hD _⟩
 | succ lv=>
  simp only[rd] at hP
  have h0:(((lv+1:Nat):Int)=0)=False:=bU (by omega)
  obtain⟨lw,hlw⟩:∃lw,lw=lv+1:=⟨_,rfl⟩
  rw[←hlw] at hP h0 ⊢
  have hwl:=mW (x:=(lw:Int) - 1) (m:=lv) (by omega) (by omega)
  simp only[h0,hwl,bP,aA,seval]
  refine(IH d a lv _ ha (by omega) hd (by omega)).mono ?_
  rintro r _ ⟨hr,rfl⟩
  cases hRi:rd (sb s) n d a lv with
  | none=>
   rw[hRi] at hr hP
   simp only at hP
   subst hP
   obtain⟨k,hk,rfl⟩:=hr
   have hk0:((0:Int)≤(-1 - (k:Int)))=False:=bU (by omega)
   simp only[aK,bT,bR,lH,aA,↓aR,seval,sE]
   intro b10 h10
   have hbb:b10≠b:=fun h=>by rw[h,aB.aO] at h10;cases h10
   have P3:st b10=none:=by rwa [aB.aM _ _ hbb] at h10
   refine iG (σ:=Unit) [1000000,10] [0,2,3,8,10] (fun _=>True) (fun _=>[(9,.int .i64 0),(11,.int .i64 (-1 - (k:Int)))]) (fun _=>(st.aC b (.cells [.int .i64 0,.int .i64 0,.str ⟨#[]⟩,.fslice []])).aC b10 (.cells IK.av.cells)) (fun _=>0) (by decide +kernel) ⟨(),trivial,aN.mk (by simp only[aA,seval])⟩ ?_
   rintro _ _
   simp only[aK,hk0,hbb.symm,bP,aA,seval,sE]
   exact⟨D9 hk,((hD _).aC P3).aC hb⟩
  | some p=>
   obtain⟨t,e⟩:=p
   rw[hRi] at hr hP
   simp only[mF] at hr hP
   subst hr
   obtain⟨g1,g2,g3⟩:=BA hl1 n d lv a t e (by rw[cQ];exact ha) hRi
   rw[cQ] at g2 hP
   simp only[aK,bT,bR,aA,↓aR,seval,sE]
   intro b10 h10
   have hbb:b10≠b:=fun h=>by rw[h,aB.aO] at h10;cases h10
   have P3:st b10=none:=by rwa [aB.aM _ _ hbb] at h10
   have hE:∀o1 o2 o3,aL (((st.aC b o1).aC b10 o2).aC b o3) st:=fun o1 o2 o3=>((hD _).aC P3).aC hb
   refine iG (σ:=Tm×Nat×Nat) [1000000,10] [0,2,3,8,10] (fun x=>D3 (fun a=>rd (sb s) n d a lv) (sb s) lw x.2.2 x.1 x.2.1=o∧a<x.2.1∧x.2.1≤s.size∧s.size<x.2.2+x.2.1) (fun x=>[(9,.int .i64 0),(11,.int .i64 (x.2.1:Int))]) (fun x=>(st.aC b (.cells [.int .i64 0,.int .i64 0,.str ⟨#[]⟩,.fslice []])).aC b10 (.cells x.1.av.cells)) (fun x=>x.2.2) (by decide +kernel) ⟨(t,e,s.size+1),⟨hP,g1,g2,by simp only;omega⟩,aN.mk (by simp only[aA,seval])⟩ ?_
   rintro⟨t,e,m⟩ ⟨ht,hae,hes,hm⟩
   simp only at ht hae hes hm ⊢
   obtain⟨m,rfl⟩:∃m',m=m'+1:=⟨m - 1,by omega⟩
   simp only[D3] at ht
   have he0:((0:Int)≤(e:Int))=True:=cK (by omega)
   simp only[he0,bF,aA,seval]
   refine(aT6 s hs e hes _).to ?_
   cases hop:qU (sb s) e with
   | none=>
    rw[hop] at ht
    simp only at ht
    subst ht
    simp only[aK,bT,cC,bR,eJ (bR _),eE (aT _),R8,hbb.symm,bF,aA,seval,sE]
    exact⟨r8 rfl,hE _ _ _⟩
   | some p=>
    obtain⟨nm,e1⟩:=p
    rw[hop] at ht
    simp only at ht
    obtain⟨k1,k2,k3⟩:=aMD hop
    rw[cQ] at k2
    have hnm:=bU (a2T k3)
    simp only[R8,hnm,bP,aA,seval]
    refine(vS nm _).to ?_
    by_cases aKU:bY nm=lw
    case neg=>
     rw[aJ aKU] at ht
     subst ht
     have hne:((bY nm:Int)=(lw:Int))=False:=bU (by omega)
     simp only[aK,bT,cC,bR,eJ (bR _),eE (aT _),hne,hbb.symm,bP,aA,seval,sE]
     exact⟨r8 rfl,hE _ _ _⟩
    rw[aF (by simpa using aKU)] at ht
    have hne:((bY nm:Int)=(lw:Int))=True:=cK (by omega)
    simp only[hne,hwl,bF,aA,seval]
    refine(IH d e1 lv _ k2 (by omega) hd (by omega)).mono ?_
    rintro r _ ⟨hr,rfl⟩
    cases hRj:rd (sb s) n d e1 lv with
    | none=>
     rw[hRj] at hr ht
     simp only at ht
     subst ht
     obtain⟨k,hk,rfl⟩:=hr
     have hk0:((-1 - (k:Int))<0)=True:=cK (by omega)
     simp only[aK,aH,bT,cC,hk0,lH,hbb.symm,bF,aA,↓aR,seval,sE]
     exact⟨D9 hk,hE _ _ _⟩
    | some p=>
     obtain⟨t2,e2⟩:=p
     rw[hRj] at hr ht
     simp only[mF] at hr ht
     subst hr
     obtain⟨q1,q2,q3⟩:=BA hl1 n d lv e1 t2 e2 (by rw[cQ];exact k2) hRj
     rw[cQ] at q2
     have he2:((e2:Int)<0)=False:=bU (by omega)
     simp only[aT,aH,bT,cC,bR,eJ (bR _),eE (aT _),he2,bP,aA,↓aR,seval,sE]
     refine(sS nm [t,t2] (by simp) _).to ?_
     by_cases h3:lw=3
     · rw[aJ h3] at ht
       subst ht
       have h3':((lw:Int)=3)=True:=cK (by omega)
       simp only[aK,bT,cC,bR,eJ (bR _),eE (aT _),h3',hbb.symm,bF,aA,seval,sE]
       exact⟨r8 rfl,hE _ _ _⟩
     · rw[aF h3] at ht
       have h3':((lw:Int)=3)=False:=bU (by omega)
       simp only[aK,bT,bR,h3',bP,aA,seval,sE]
       exact⟨(oO nm [t,t2],e2,m),by simp only;omega,⟨ht,by simp only;omega,q2,by simp only;omega⟩,aN.mk (by simp only[aA,seval])⟩
theorem LW{k n:Int}{s:ByteArray}{ts:List Tm}:l7 (.mk k n s ts)=(decide (k=3)&&(decide (s=⟨#[46]⟩)&&decide (ts.length=2))):=rfl
theorem aLZ{k n:Int}{s:ByteArray}{ts:List Tm}:A1 (.mk k n s ts)=(decide (k=3)&&(decide (s=⟨#[91,93]⟩)&&decide (ts.length=0))):=rfl
theorem RL{k n:Int}{s:ByteArray}{ts:List Tm}:pK (.mk k n s ts)=(decide (k=3)&&(decide (ts.length=2)&&decide (0<bY s))):=rfl
theorem FS{k n:Int}{s:ByteArray}{ts:List Tm}:zW (.mk k n s ts)=(decide (k=3)&&decide (0<ts.length)):=rfl
theorem aNF{k n:Int}{s:ByteArray}{ts:List Tm}:BG (.mk k n s ts)=(decide (k=3)&&(decide (ts.length=0)&&decide (0<bY s))):=rfl
abbrev TP:=zi aX (zi bZ (zi cJ (zi bS bQ)))
theorem J0(t:Tm)(st:aB):aD prog 233 [t.av] st (fun r st'=>r=.bool (l7 t)∧st'=st):=by
 obtain⟨k,n,s,ts⟩:=t
 rw[LW]
 refine wF [1000000] 1 func233 ntmps233 rfl rfl ?_
 intro _
 simp only[aU]
 by_cases h1:k=3
 case neg=>
  rw[d6 h1,fB]
  simp only[h1,bP,aA,seval,TP]
 rw[eH h1,dU]
 by_cases h2:s=⟨#[46]⟩
 case neg=>
  rw[d6 h2,fB]
  simp only[h1,h2,bF,bP,aA,seval,TP]
 rw[eH h2,dU]
 have h3:decide (((ts.length:Nat):Int)=2)=decide (ts.length=2):=by rw[rT];omega
 simp only[h1,h2,h3,bF,aE,aA,seval,TP]
abbrev TR:=zi aX (zi bZ (zi cJ (zi bS bQ)))
theorem aTT(t:Tm)(st:aB):aD prog 298 [t.av] st (fun r st'=>r=.bool (A1 t)∧st'=st):=by
 obtain⟨k,n,s,ts⟩:=t
 rw[aLZ]
 refine wF [1000000] 1 func298 ntmps298 rfl rfl ?_
 intro _
 simp only[aU]
 by_cases h1:k=3
 case neg=>
  rw[d6 h1,fB]
  simp only[h1,bP,aA,seval,TR]
 rw[eH h1,dU]
 by_cases h2:s=⟨#[91,93]⟩
 case neg=>
  rw[d6 h2,fB]
  simp only[h1,h2,bF,bP,aA,seval,TR]
 rw[eH h2,dU]
 have h3:decide (((ts.length:Nat):Int)=0)=decide (ts.length=0):=by rw[rT];omega
 simp only[h1,h2,h3,bF,aE,aA,seval,TR]
abbrev TQ:=zi aX (zi bZ (zi cJ (zi bS bQ)))
theorem XV(t:Tm)(st:aB):aD prog 235 [t.av] st (fun r st'=>r=.bool (pK t)∧st'=st):=by
 obtain⟨k,n,s,ts⟩:=t
 rw[RL]
 refine wF [1000000] 1 func235 ntmps235 rfl rfl ?_
 intro _
 simp only[aU]
 by_cases h1:k=3
 case neg=>
  rw[d6 h1,fB]
  simp only[h1,bP,aA,seval,TQ]
 rw[eH h1,dU]
 by_cases h2:ts.length=2
 case neg=>
  rw[d6 h2,fB]
  have h2':(((ts.length:Nat):Int)=2)=False:=bU (by omega)
  simp only[h1,h2',bF,bP,aE,aA,seval,TQ]
 rw[eH h2,dU]
 have h2':(((ts.length:Nat):Int)=2)=True:=cK (by omega)
 simp only[h1,h2',bF,aE,aA,seval,TQ]
 refine(vS s _).to ?_
 have h3:decide ((0:Int)<(bY s:Int))=decide (0<bY s):=by rw[rT];omega
 simp only[h3,aA,seval]
abbrev TS:=zi aX (zi bZ (zi cJ (zi bS bQ)))
theorem XW(t:Tm)(st:aB):aD prog 299 [t.av] st (fun r st'=>r=.bool (BG t)∧st'=st):=by
 obtain⟨k,n,s,ts⟩:=t
 rw[aNF]
 refine wF [1000000] 1 func299 ntmps299 rfl rfl ?_
 intro _
 simp only[aU]
 by_cases h1:k=3
 case neg=>
  rw[d6 h1,fB]
  simp only[h1,bP,aA,seval,TS]
 rw[eH h1,dU]
 by_cases h2:ts.length=0
 case neg=>
  rw[d6 h2,fB]
  have h2':(((ts.length:Nat):Int)=0)=False:=bU (by omega)
  simp only[h1,h2',bF,bP,aE,aA,seval,TS]
 rw[eH h2,dU]
 have h2':(((ts.length:Nat):Int)=0)=True:=cK (by omega)
 simp only[h1,h2',bF,aE,aA,seval,TS]
 refine(vS s _).to ?_
 have h3:decide ((0:Int)<(bY s:Int))=decide (0<bY s):=by rw[rT];omega
 simp only[h3,aA,seval]
theorem aUB(s:ByteArray)(hs:s.size≤1000)(st:aB):aD prog 237 [.str s] st (fun r st'=>r=.str (n7 s)∧st'=st):=by
 refine wF [1000000] 1 func237 ntmps237 rfl rfl ?_
 intro _
 have hm:maxLen=9223372036854775807:=by rfl
 have g1:(⟨#[32]⟩:ByteArray).size+s.size≤maxLen:=by show 1+s.size≤_;omega
 have g2:((⟨#[32]⟩:ByteArray)++s).size+(⟨#[32]⟩:ByteArray).size≤maxLen:=by rw[cL];show 1+s.size+1≤_;omega
 by_cases h1:s=⟨#[105,115]⟩
 · have hW:iN s=true:=by unfold iN;rw[eH h1];try rfl
   unfold n7
   rw[aJ hW]
   have h1':=cK h1
   simp only[h1',g1,g2,↓reduceIte,bF,aA,seval]
 · have h1':=bU h1
   by_cases h2:s=⟨#[109,111,100]⟩
   · have hW:iN s=true:=by unfold iN;rw[eH h2];exact xA _
     unfold n7
     rw[aJ hW]
     have h2':=cK h2
     simp only[h1',h2',g1,g2,↓reduceIte,bF,bP,aA,seval]
   · have hW:iN s=false:=by unfold iN;rw[d6 h1,d6 h2];try rfl
     unfold n7
     rw[aF (by rw[hW];decide)]
     have h2':=bU h2
     simp only[h1',h2',bP,aA,seval]
theorem aT7(s:ByteArray)(hs:1≤s.size)(st:aB):aD prog 301 [.str s] st (fun r st'=>r=.bool (uT (sb s))∧st'=st):=by
 refine wF [1000000] 1 func301 ntmps301 rfl rfl ?_
 intro _
 obtain⟨x,hx⟩:=uD (s:=s) (n:=0) (by omega)
 have hix:=rZ (P:=prog) (t:=9) rB hx
 rw[show((0:Nat):Int)=0 from rfl] at hix
 unfold uT
 simp only[uR hx,qO hx]
 simp only[aA,seval]
 refine(aLX s 0 _).to ?_
 rw[uR hx]
 cases h1:letter x with
 | true=>
  simp only[aA,seval]
  simp
 | false=>
  simp only[aA,seval]
  refine(AZ s 0 _).to ?_
  rw[uR hx]
  cases h2:dK x with
  | true=>
   simp only[aA,seval]
   simp
  | false=>
   by_cases h3:65≤x.toNat
   case' pos=>have h3':((65:Int)≤(x.toNat:Int))=True:=cK (by omega)
   case' neg=>have h3':((65:Int)≤(x.toNat:Int))=False:=bU (by omega)
   all_goals
    by_cases h4:x.toNat≤90
    case' pos=>have h4':((x.toNat:Int)≤90)=True:=cK (by omega)
    case' neg=>have h4':((x.toNat:Int)≤90)=False:=bU (by omega)
   all_goals
    by_cases h5:x.toNat=91
    case' pos=>have h5':((x.toNat:Int)=91)=True:=cK (by omega)
    case' neg=>have h5':((x.toNat:Int)=91)=False:=bU (by omega)
   all_goals
    by_cases h6:x.toNat=40
    case' pos=>have h6':((x.toNat:Int)=40)=True:=cK (by omega)
    case' neg=>have h6':((x.toNat:Int)=40)=False:=bU (by omega)
   all_goals try (exfalso;omega)
   all_goals
    simp only[hix,h3',h4',h5',h6',bF,bP,aA,seval]
    simp [rC,h3,h4,h5,h6]
theorem JV(n:Nat):bytesOf [AV.int .u8 ((n:Nat):Int)]=some [UInt8.ofNat n]:=by simp only[bytesOf,kX,oZ]
theorem IW{x:Int}{m:Nat}(h:x=(m:Int))(hm:m≤255):IntKind.wrap .u8 x=(m:Int):=by rw[IntKind.wrap_u8];omega
abbrev a6X:=zi aX (zi kU (zi cJ yZ))
theorem XN(m:Nat)(hm:m≤25)(st:aB):aD prog 147 [.int .i64 (m:Int)] st (fun r st'=>r=.str (pM m)∧st'=st):=by
 refine wF [1000000] 1 func147 ntmps147 rfl rfl ?_
 intro _
 have hw:=IW (x:=(m:Int)) rfl (by omega)
 obtain⟨y,hy⟩:∃y,y=65+m:=⟨_,rfl⟩
 have hw2:=IW (x:=65+(m:Int)) (m:=y) (by omega) (by omega)
 simp only[sO,hw,hw2,JV,aA,seval,a6X]
 subst hy
 rfl
abbrev aOK:=zi aX (zi kU (zi cJ yZ))
theorem XH(n:Nat)(hn:n≤1000000)(st:aB):aD prog 253 [.int .i64 (n:Int)] st (fun r st'=>r=.str (kO 20 n ⟨#[]⟩)∧st'=st):=by
 refine wF [1000000] 1 func253 ntmps253 rfl rfl ?_
 intro _
 have h1:((n:Int)< -9223372036854775807)=False:=bU (by omega)
 have h2:((n:Int)<0)=False:=bU (by omega)
 simp only[h1,h2,bP,aA,seval]
 generalize hT:kO 20 n ⟨#[]⟩=T
 refine iG (σ:=Nat×ByteArray×Nat) [1000000] [2] (fun x=>kO x.2.2 x.1 x.2.1=T∧x.1<10 ^ x.2.2∧x.1≤1000000∧1≤x.2.2∧x.2.1.size+x.2.2≤20) (fun x=>[(0,.int .i64 (x.1:Int)),(3,.str x.2.1)]) (fun _=>st) (fun x=>x.2.2) (by decide +kernel) ⟨(n,⟨#[]⟩,20),⟨hT,by simp only;omega,hn,by simp only;omega,by show 0+20≤20;omega⟩,aN.mk (by simp only[aA,seval])⟩ ?_
 rintro⟨k,acc,f⟩ ⟨hd,hk,hk6,hf,hb⟩
 simp only at hd hk hk6 hf hb ⊢
 obtain⟨f,rfl⟩:∃f',f=f'+1:=⟨f - 1,by omega⟩
 have hm:maxLen=9223372036854775807:=by rfl
 have hsz:∀u:UInt8,(⟨#[u]⟩:ByteArray).size+acc.size≤maxLen:=fun u=>by show 1+acc.size≤_;omega
 have hr:((k:Int)).tmod 10=((k % 10:Nat):Int):=by rw[Int.tmod_eq_emod_of_nonneg (by omega)];omega
 have hq:((k:Int)).tdiv 10=((k / 10:Nat):Int):=by rw[Int.tdiv_eq_ediv_of_nonneg (by omega)];omega
 simp only[aA,seval]
 refine aP (fun h3=>?_) (fun h3=>?_)
 · simp only[bO] at h3
   unfold kO at hd
   rw[aJ (by omega)] at hd
   rw[Nat.pow_succ] at hk
   obtain⟨y,hy⟩:∃y,y=48+k % 10:=⟨_,rfl⟩
   obtain⟨q,hq'⟩:∃q,q=k / 10:=⟨_,rfl⟩
   obtain⟨r,hr'⟩:∃r,r=k % 10:=⟨_,rfl⟩
   rw[←hr'] at hr
   rw[←hq'] at hq
   have hwr:=bL (n:=(r:Int))
   have hw:=mW (x:=48+(r:Int)) (m:=y) (by omega) (by omega)
   have hw8:=IW (x:=(y:Int)) (m:=y) rfl (by omega)
   have hw2:=bL (n:=(q:Int))
   simp only[sO,hr,hq,hw,hw8,hw2,JV,hsz,aA,seval,aOK]
   refine⟨(q,⟨#[UInt8.ofNat y]⟩++acc,f),by simp only;omega,⟨by rw[hq',hy];exact hd,by simp only;omega,by simp only;omega,?_,?_⟩,aN.mk (by simp only[aA,seval]<;>rfl)⟩
   · show 1≤f
     rcases NV f with rfl | h
     · simp only[Nat.pow_zero] at hk;omega
     · exact h
   · show(⟨#[UInt8.ofNat y]⟩++acc:ByteArray).size+f≤20
     rw[cL]
     show 1+acc.size+f≤20
     omega
 · simp only[dB] at h3
   unfold kO at hd
   rw[aF (by omega)] at hd
   obtain⟨y,hy⟩:∃y,y=48+k:=⟨_,rfl⟩
   have hw:=mW (x:=48+(k:Int)) (m:=y) (by omega) (by omega)
   have hw8:=IW (x:=(y:Int)) (m:=y) rfl (by omega)
   simp only[sO,hw,hw8,JV,hsz,aA,seval,aOK]
   rw[←hd,hy]
theorem aTP(n:Int)(h1: -999≤n)(h2:n≤999)(st:aB):aD prog 252 [.int .i64 n] st (fun r st'=>r=.str (mK n)∧st'=st):=by
 refine wF [1000000] 1 func252 ntmps252 rfl rfl ?_
 intro _
 unfold mK
 have hm:maxLen=9223372036854775807:=by rfl
 by_cases h:n<0
 · rw[aJ h]
   obtain⟨m,hm'⟩:∃m:Nat,m=(-n).toNat:=⟨_,rfl⟩
   rw[←hm']
   have h':=cK h
   have hw:=mW (x:=0 - n) (m:=m) (by omega) (by omega)
   have hw':=mW (x:= -n) (m:=m) (by omega) (by omega)
   have hs:(⟨#[45]⟩:ByteArray).size+(kO 20 m ⟨#[]⟩).size≤maxLen:=by have:=AB 20 m ⟨#[]⟩;have h0:(⟨#[]⟩:ByteArray).size=0:=rfl;show 1+_≤_;omega
   simp only[h',hw,↓reduceIte,bF,aA,seval]
   refine(XH m (by omega) _).to ?_
   simp only[hs,↓reduceIte,aA,seval]
 · rw[aF h]
   obtain⟨m,rfl⟩:=pV (show 0≤n by omega)
   have h':=bU h
   rw[kX]
   simp only[h',bP,aA,seval]
   refine(XH m (by omega) _).to ?_
   simp only[aA,seval]
abbrev H4:=zi aX (zi cJ (zi bS bQ))
theorem aT2(t:Tm)(ht:Ws t)(h0:t.k=3→t.ts= [])(st:aB):aD prog 240 [t.av] st (fun r st'=>r=.str (wK t)∧st'=st):=by
 obtain⟨k,n,s,ts⟩:=t
 have hp:=J0 (.mk k n s ts)
 simp only[aU] at hp ⊢
 rw[show wK (.mk k n s ts)=if k=1 then pM n else if k=2 then mK n else s from rfl]
 have h0:k=3→ts= []:=h0
 refine wF [1000000] 1 func240 ntmps240 rfl rfl ?_
 intro _
 rcases yJ ht.own.1 with ⟨rfl,h1,h2,rfl,h4⟩ | ⟨rfl,h1,h2,rfl,h4⟩ | ⟨rfl,rfl,h2,h4⟩
 · obtain⟨m,rfl⟩:=pV h1
   simp only[aA,seval,H4]
   refine(XN m (by omega) _).to ?_
   simp only[aA,seval]
 · skip
   simp only[aA,seval,H4]
   refine(aTP n h1 h2 _).to ?_
   simp only[aA,seval]
 · obtain rfl:=h0 rfl
   simp only[aV,aA,seval,H4]
   refine(hp _).to ?_
   rw[show l7 (.mk 3 0 s [])=false by rw[LW];simp]
   simp only[aA,seval,H4]
   refine iG (σ:=Unit) [1000000] [1,2] (fun _=>True) (fun _=>[(3,.str s),(4,.int .i64 0)]) (fun _=>st) (fun _=>0) (by decide +kernel) ⟨(),trivial,aN.mk (by simp only[aA,seval])⟩ ?_
   rintro _ _
   simp only[aW,aA,seval,H4]
theorem R7{N:Int}{t:Tm}(h:bG N t):(t.k=1∨t.k=2∨t.k=3)∧(t.k=1→t.ts= [])∧(t.k=2→-999≤t.n∧t.n≤999)∧(t.k=3→t.s.size≤6)∧t.ts.length≤4:=by
 obtain⟨h,-⟩:=h
 obtain⟨k,n,s,ts⟩:=t
 have hk:=h.kind
 refine⟨hk.1,fun e=>?_,fun e=>?_,fun e=>?_,hk.2⟩<;>simp only[Tm.k] at e<;>subst e
 · exact h.var.2.2.2
 · have:=(h.own (by decide)).1
   simp [eK] at this
   simp only[Tm.n];omega
 · have:=(h.own (by decide)).1
   simp [eK] at this
   exact(RT this.1.2).2
theorem a3P{N:Int}{t:Tm}(h:bG N t){x:Tm}{l:List Tm}(e:t.ts=x::l):bG N x:=by
 have h1:t.k≠1:=fun hk=>by have:=(R7 h).2.1 hk;rw[e] at this;cases this
 exact qS N t h1 h x (by rw[e];simp)
theorem a2L{N:Int}{t:Tm}(h:bG N t):yF t=match t.ts with
 | []=>⟨#[]⟩
 | x::_=>RM x:=by
 unfold yF
 by_cases h1:t.k=1
 · rw[aJ h1,(R7 h).2.1 h1]
 · rw[aF h1]
   try rfl
abbrev MF:=zi aX (zi cJ (zi bS bQ))
theorem XA{N:Int}{t:Tm}(ht:bG N t)(st:aB)(hT:st g9=some iP):aD prog 159 [t.av] st (fun r st'=>r=.str (yF t)∧st'=st):=by
 refine aD.drop ?_
 rw[a2L ht]
 have hx:=@a3P N t ht
 obtain⟨k,n,s,ts⟩:=t
 simp only[Tm.ts] at hx ⊢
 rw[aU]
 refine wF [1000000] 1 func159 ntmps159 rfl rfl ?_
 intro _
 simp only[aE,aA,seval,MF]
 refine aP (fun h=>?_) (fun h=>?_)
 · have h':ts= []:=rH (by simp at h;simp [h])
   subst h'
   simp only[aA,seval]
   first | exact aL.refl _ | exact⟨aL.refl _,rfl⟩
 cases ts with
 | nil=>simp at h
 | cons x l=>
  obtain⟨hk,h1,h2,h3,h4⟩:=R7 (hx rfl)
  obtain⟨xk,xn,xs,xt⟩:=x
  simp only[Tm.k,Tm.ts,Tm.n,Tm.s] at hk h1 h2 h3 h4
  have hat:c9 prog 34 (.slice ((Tm.mk xk xn xs xt).av::l.map Tm.av)) (.int .i64 0)=some (.pptr (.agg [.int .i64 xk,.int .i64 xn,.str xs,.slice (xt.map Tm.av)])):=by
   rw[←aU]
   exact bD (av:=Tm.av) (l:=.mk xk xn xs xt::l) (i:=0) a8 rfl (aH _)
  have hdx:mK (xt.length:Int)=kO 20 xt.length ⟨#[]⟩:=by unfold mK;rw[aF (by omega),kX]
  have hu:RM (.mk xk xn xs xt)=if xk=1 then⟨#[]⟩ else if xk=2 then mK xn else xs++⟨#[47]⟩++kO 20 xt.length ⟨#[]⟩:=rfl
  simp only
  rw[hu]
  simp only[hat,aA,↓aR,seval,MF]
  refine aP (fun h=>?_) (fun h=>?_)
  · rw[aJ (by simpa using h)]
    simp only[aA,seval]
    first | exact aL.refl _ | exact⟨aL.refl _,rfl⟩
  have h5:xk≠1:=by simpa using h
  rw[aF h5]
  simp only[aA,seval]
  refine aP (fun h=>?_) (fun h=>?_)
  · have h6:xk=2:=by simpa using h
    rw[aJ h6]
    simp only[aA,seval,MF]
    refine(RX xn (h2 h6).1 (h2 h6).2 _ hT).to ?_
    simp only[aA,seval]
    first | exact aL.refl _ | exact⟨aL.refl _,rfl⟩
  have h6:xk≠2:=by simpa using h
  rw[aF h6]
  have hs:=h3 (by omega)
  have hm:maxLen=9223372036854775807:=by rfl
  have hs1:xs.size+(⟨#[47]⟩:ByteArray).size≤maxLen:=by show xs.size+1≤_;omega
  have hs2:(xs++(⟨#[47]⟩:ByteArray)).size+(kO 20 xt.length ⟨#[]⟩).size≤maxLen:=by
   have:=AB 20 xt.length ⟨#[]⟩
   have h0:(⟨#[]⟩:ByteArray).size=0:=rfl
   rw[cL]
   show xs.size+1+_≤_
   omega
  simp only[aA,seval]
  refine CT mixed (by decide +kernel) (by decide +kernel) ?_
  simp only[aE,hs1,↓reduceIte,aA,seval,MF]
  refine fK (RX xt.length (by omega) (by omega) _ hT) ?_
  simp only[hs2,hdx,↓reduceIte,aA,seval]
  first | exact aL.refl _ | exact⟨aL.refl _,rfl⟩
theorem aS8(a b:ByteArray)(st:aB):aD prog 163 [.str a,.str b] st (fun r st'=>r=.bool (KU a b)∧st'=st):=by
 unfold KU
 refine wF [1000000] 2 func163 ntmps163 rfl rfl ?_
 intro _
 simp only[aA,seval]
 refine cU (fun h=>?_) (fun h=>?_)
 case refine_2=>
  have h':decide (a=⟨#[]⟩)=true:=by simpa using h
  simp only[h,aA,seval]
  try simp []
 have h1:decide (a=⟨#[]⟩)=false:=by simpa using h
 simp only[h,aA,seval]
 refine cU (fun h=>?_) (fun h=>?_)
 case refine_2=>
  have h':decide (b=⟨#[]⟩)=true:=by simpa using h
  simp only[h,aA,seval]
  try simp []
 have h2:decide (b=⟨#[]⟩)=false:=by simpa using h
 simp only[h,aA,seval]
 try simp [h1,h2]
theorem S0{h:bM}{st:aB}{b:Nat}{cs cs':List AV}(hb:st b=some (.cells cs)):b7 h st h (st.aC b (.cells cs')):=
 ⟨cZ _,fun y _ e=>⟨rfl,by
  have hne:y≠b:=by rintro rfl;rw[hb] at e;cases e
  rw[aB.aM _ _ hne];exact e⟩,fun _ c _ _ e=>⟨c,e,rfl⟩⟩
theorem YS{h:bM}{b:Nat}:∀ {vs:List Value} {off:Nat} (k:Nat),eV h b off vs→eV h b off (vs.take k)
 | _,_,0,_=>by simp [eV]
 | [],_,k+1,_=>by simp [eV]
 | v::vs,off,k+1,x=>⟨x.1,YS k x.2⟩
theorem a5F{h:bM}{st:aB}{b:Nat}{cs:List AV}(k:Nat)(hb:st b=some (.cells cs))(S:cW h st):cW h (st.aC b (.cells (cs.take k))):=fun y o e=>by
 have T:=S0 (h:=h) (cs':=cs.take k) hb
 by_cases hy:y=b
 · subst hy
   rw[aB.aO] at e
   cases e
   obtain⟨h1,c,t,e1,e2,vs,e3,e4⟩:=S y _ hb
   exact⟨h1,c,t,e1,jP (by rw[dC];omega) e2,vs.take k,YS k e3,bA.mono T _ _ (e4.take k)⟩
 · rw[aB.aM _ _ hy] at e
   obtain⟨h1,h2⟩:=S y o e
   exact⟨h1,kY.mono T rfl h2⟩
theorem aD.cut{P:Program}{g:FuncId}{args:List AV}{st:aB}{Q:AV→aB→Prop}(x:aD P g args st (fun r st'=>∃b cs k,st' b=some (.cells cs)∧Q r (st'.aC b (.cells (cs.take k))))):aD P g args st Q:=
 x.mV fun r st' ⟨b,cs,k,h1,h2⟩=>⟨r,_,fun h S=>⟨a5F k h1 S,S0 h1⟩,fun h v S y=>y.mono (S0 h1),h2⟩
theorem aLD{st:aB}{b i:Nat}{cs:List AV}{x:AV}(hs:st b=some (.cells cs))(hx:cs[i]?=some x)(ha:x.isAgg=false):iA prog st 3 (.ptr b i)=some x:=by
 simp [iA,tI_3,hs,sub,hx,ha]
abbrev a6O:=zi aX fA
theorem a3K(l:List Nat)(g:FuncId)(dN:List AV)(p:Nat→Bool)(b:Nat)(cs:List AV)(h9:l.length≤1048576)(st:aB)(hb:st b=some (.cells cs))(hcs:∀(i x:Nat),l[i]?=some x→cs[i]?=some (nv x))(hc:∀x∈l,aD prog g ([nv x]++dN) st (fun r st'=>r=.bool (p x)∧st'=st)) :
 aD prog 250 [.mslice b 0 l.length 1,.func g dN] st (fun r st'=>r=.int .i64 (oM p l 0)∧st'=st):=by
 refine wF [1000000] 2 func250 ntmps250 rfl rfl ?_
 intro _
 simp only[aA,seval,a6O]
 refine dV (σ:=Unit) [1000000] [0,1,7] l (fun i _=>oM p (l.drop i) i=oM p l 0) (fun i _=>[(8,.int .i64 i)]) (fun _ _=>st) (by decide +kernel) ⟨(),rfl,aN.mk (by simp only[aA,↓aR,seval])⟩ (fun i x _ hx hlt bH hdr hinv=>?_) (fun _ hge hinv=>?_)
 case refine_2=>
  simp only[hge,aA,seval]
  rw[←hinv,j4]
  try rfl
 rw[hdr,oM] at hinv
 have hw:=bL (n:=(i:Int)+1)
 have hat:=uL (P:=prog) (t:=26) (b:=b) (w:=1) g7 hlt
 rw[vF] at hat
 have hld:=aLD hb (hcs i x hx) rfl
 have hca:=hc x (cD hx)
 simp only[nv,fC,eL] at hld hca
 simp only[bH,hat,hld,aA,seval]
 refine(hca).to ?_
 simp only[aA,seval]
 refine aP (fun h=>?_) (fun h=>?_)
 · rw[aJ h] at hinv
   simp only[hinv,aA,seval]
 · rw[aF (by simp [h])] at hinv
   simp only[hw,aA,seval]
   exact⟨(),by rw[←hinv],aN.mk (by simp only[aA,seval])⟩
end Go.AW

namespace Go.AW
open Go.Proofs.Tryz
open Go.Shelf
set_option linter.unusedSimpArgs false
set_option linter.unusedVariables false
set_option maxRecDepth 100000
def aV9:Go.Shelf.Ren:=⟨fun | 15=>161 | n=>n,fun | 22=>26 | 3=>3 | 4=>4 | n=>n,fun | n=>n⟩
theorem aV8:Go.Proofs.Lays2.n15 prog aV9:={
 mixed:=by kernel_rfl
 f15:=func161.trans (fE some (by kernel_rfl))
 t3:=y7
 a3:=isAgg3
 z3:=sizeOf3
 v3:=zeroValue3
 t4:=uU4
 a4:=isAgg4
 z4:=sizeOf4
 v4:=zeroValue4
 t22:=IT
 a22:=isAgg26
 z22:=sizeOf26
 v22:=zeroValue26
 i3:=by kernel_rfl }
def AT(i:Nat):Value:=.int .i64 (i:Int)
theorem VJ{h:bM}{st:aB}{b:Nat}:∀ {l:List Nat} {off:Nat},dH h st b off (l.map nv)→∀(j x:Nat),l[j]?=some x→cellAt h b (off+j)=some (AT x)
 | [],_,_,j,x,e=>by simp at e
 | a::l,off,v,0,x,e=>by
  simp only[E5,Option.some.injEq] at e
  subst e
  obtain⟨⟨cs,c1,c2,c3⟩,_⟩:=v
  have c3:cs= [AT a]:=c3
  subst c3
  exact c1.1
 | a::l,off,v,j+1,x,e=>by
  rw[E4] at e
  have:=VJ v.2 j x e
  rwa [show(nv a).width=1 from rfl,xH,FB 1 j] at this
theorem VH{h:bM}{st:aB}:∀l:List Nat,bA h st (l.map nv) (l.map AT)
 | []=>rfl
 | a::l=>⟨AT a,l.map AT,rfl,rfl,VH l⟩
theorem a3I(l:List Nat)(hl:l≠[])(h9:l.length≤1048576)(st:aB):aD prog 161 [.slice (l.map nv)] st (fun r st'=>∃b,st b=none∧r=.mslice b 0 l.length 1∧st'=st.aC b (.cells (l.map nv))):=by
 refine⟨⟨_,func161,rfl,by kernel_rfl⟩,fun w vs S V=>?_⟩
 obtain⟨v,r,rfl,v1,v2⟩:=V
 obtain rfl:r= []:=v2
 have hne:l.map nv≠[]:=by simpa using hl
 obtain⟨hag,hv⟩:=v1
 unfold VC at hv
 rcases hv with ⟨_,h⟩ | ⟨b,off,cap,e1,e2,e3,e4,e5,e6,e7⟩
 · exact absurd h hne
 obtain rfl:v=.slice (some ⟨b,off,none⟩) (l.map nv).length cap:=by
  cases v<;>first | exact absurd hag Bool.false_ne_true | simp_all [Value.cells]
 rw[aE]
 have g8:∀j,j<(l.map fun i:Nat=>(i:Int)).length→w.cell? ⟨b,off+j,none⟩=some (.int .i64 ((l.map fun i:Nat=>(i:Int)).getD j 0)):=fun j hj=>by
  rw[aE] at hj
  have h1:=VJ e7 j l[j] (eN hj)
  unfold cellAt at h1
  unfold World.cell?
  simp only[UX,mD,eN hj,oZ,B6]
  split at h1
  · rename_i hb;rw[hb];exact h1
  · cases h1
 refine(Go.Proofs.Any.slices_Clone_int aV8 b off l.length cap (l.map fun i:Nat=>(i:Int)) w (by rw[aE];omega) (by omega) g8).mono ?_
 rintro e w' ⟨v',rfl,⟨_,ho⟩,hnn,hB⟩
 rcases ho with ⟨h,_⟩ | ⟨g,aVW,cur,rfl,h1,h2,h3,h4,h5,h6⟩
 · exact absurd h hnn
 have X:Ext w.heap w'.heap:=⟨hB.size,hB.block⟩
 have hg:st g=none:=by
  cases hs:st g with
  | none=>rfl
  | some o=>exact absurd (S g o hs).1 (by omega)
 have hgl:g<w'.heap.size:=(EY.1 h2).1
 have T:b7 w.heap st w'.heap (st.aC g (.cells (l.map nv))):=⟨hB.size,fun y hy hn=>⟨hB.block y hy,by rw[aB.aM _ _ (by omega)];exact hn⟩,(X.step st).shape⟩
 have h7:(l.map fun i:Nat=>(i:Int)).take l.length=l.map fun i:Nat=>(i:Int):=lC (by rw[aE];omega)
 rw[vF] at h5 h6
 rw[h7,rI] at h6
 have hvs:(l.map AT)=(cur.toList.drop 0).take l.length:=by rw[rG,h6];try rfl
 refine⟨_,.mslice g 0 l.length 1,st.aC g (.cells (l.map nv)),rfl,⟨rfl,aVW,rfl,h3,h4,cur,_,h2,by omega⟩,fun y o e=>?_,T,⟨hB.os,hB.tape,hB.output⟩,g,hg,rfl,rfl⟩
 by_cases hy:y=g
 · subst hy
   rw[aB.aO] at e
   cases e
   exact⟨hgl,cur,_,h2,by rw[aE];omega,l.map AT,by rw[hvs];exact z7 h2 _ 0 (by omega),VH l⟩
 · rw[aB.aM _ _ hy] at e
   obtain⟨p1,p2⟩:=S y o e
   exact⟨tZ p1 hB.size,kY.mono T (hB.block y p1) p2⟩
end Go.AW

namespace Go.AW
open Go.Proofs.Tryz
theorem aV6{P:Program}{t:TypeId}{ag:Bool}{sz b off n:Nat}{zs cs:List AV}{st:aB}{K:AV→aB→Prop}(hI:eI P t=some (ag,sz))(hZ:eZ P t=some zs)(h0:sz≠0)(hz:zs.length=sz)(hst:zs.all AV.storable=true)(hb:st b=some (.cells cs))(fF:off+n*sz≤cs.length)
 (hK:K (.tup []) (st.aC b (.cells (aK cs off (jX zs n))))):vJ P t st (.mslice b off n sz) K:=by
 unfold vJ
 rw[hI,hZ]
 simp only[hb]
 exact⟨trivial,h0,hz,hst,fF,hK⟩
theorem a5A{cs:List AV}{i:Nat}{x:List AV}(h:i≤cs.length):(aK cs i x).take i=cs.take i:=by
 unfold aK
 rw[nP,List.take_left' (by rw[dC];omega)]
theorem a5B{cs:List AV}{i:Nat}{x:AV}(h:i<cs.length):(aK cs i [x]).take (i+1)=cs.take i++ [x]:=by
 unfold aK
 rw[List.take_left' (by rw[dM,dC,aS,aW];omega)]
theorem a49{cs:List AV}{i:Nat}{x:List AV}(h:i+x.length≤cs.length):(aK cs i x).length=cs.length:=by
 unfold aK
 simp only[dM,dC,mZ]
 omega
theorem set_drop{cs:List AV}{i j:Nat}{x:AV}(h:i<cs.length)(hj:i<j):(aK cs i [x]).drop j=cs.drop j:=by
 unfold aK
 rw[List.drop_append,B2 (by rw[dM,dC,aS,aW];omega),eL,E2]
 congr 1
 rw[dM,dC,aS,aW]
 omega
structure UW (l:List Nat) (p:Nat→Bool) (i j:Nat) (W:List AV):Prop where
 lt:i<j
 le:j≤l.length
 len:W.length=l.length
 head:W.take i=((l.take j).filter fun x=> !p x).map nv
 hlen:i=((l.take j).filter fun x=> !p x).length
 tail:W.drop j=(l.drop j).map nv
abbrev aN7:=zi aX (zi bZ fA)
theorem a3J(l:List Nat)(g:FuncId)(dN:List AV)(p:Nat→Bool)(b:Nat)(h9:l.length≤1048576)(st:aB)(hb:st b=some (.cells (l.map nv)))(hc:∀x∈l,∀cs,aD prog g ([nv x]++dN) (st.aC b (.cells cs)) (fun r st'=>r=.bool (p x)∧st'=st.aC b (.cells cs))) :
 aD prog 160 [.mslice b 0 l.length 1,.func g dN] st (fun r st'=>∃W,r=.mslice b 0 (l.filter fun x=> !p x).length 1∧st'=st.aC b (.cells W)∧W.take (l.filter fun x=> !p x).length=(l.filter fun x=> !p x).map nv):=by
 have hst:st.aC b (.cells (l.map nv))=st:=by
  funext y
  simp only[aB.aC]
  split
  · rename_i h;rw[h,hb]
  · rfl
 have QT:=a3K l g dN p b (l.map nv) h9 st hb (fun i x h=>by simp [h]) (fun x hx=>by have:=hc x hx (l.map nv);rwa [hst] at this)
 refine wF [1000000] 2 func160 ntmps160 rfl rfl ?_
 intro _
 simp only[aA,seval]
 refine(QT).to ?_
 simp only[aA,seval]
 rcases RK p l 0 (by omega) with ⟨h1,h2⟩ | ⟨j0,x0,h1,h2,h3,h4,h5⟩
 · have dJ:(l.filter fun x=> !p x)=l:=List.filter_eq_self.2 fun a ha=>by
    have:=List.any_eq_false.1 h2 a ha
    simpa using this
   rw[h1,dJ]
   simp only[aA,seval]
   exact⟨l.map nv,hst.symm,by rw[lC (by rw[aE];exact cZ _)]⟩
 have hj:j0<l.length:=(gS.1 h2).1
 have hf0:((l.take (j0+1)).filter fun x=> !p x)=l.take j0:=by
  rw[eA,h2,List.filter_append]
  simp only[B7,List.filter_cons,h3,fU,gE,d5,List.filter_nil,iB]
  refine List.filter_eq_self.2 fun a ha=>?_
  obtain⟨k,hk⟩:=B3 ha
  rw[List.getElem?_take] at hk
  split at hk
  · rename_i h;rw[h5 k a h hk];try rfl
  · cases hk
 have hI0:UW l p j0 (j0+1) (l.map nv):=⟨by omega,by omega,by rw[aE],by rw[hf0,E7],by rw[hf0,dC];omega,by rw[E6]⟩
 rw[h1,Int.zero_add]
 have hn1:((j0:Int)= -1)=False:=bU (by omega)
 have hw0:=bL (n:=(j0:Int)+1)
 simp only[hn1,hw0,bP,aA,seval]
 refine iG (σ:=Nat×Nat×List AV) [1000000] [0,1,4] (fun x=>UW l p x.1 x.2.1 x.2.2) (fun x=>[(5,.int .i64 (x.1:Int)),(6,.int .i64 (x.2.1:Int))]) (fun x=>st.aC b (.cells x.2.2)) (fun x=>l.length - x.2.1) (by decide +kernel) ⟨(j0,j0+1,l.map nv),hI0,(by simp only[hst];exact aN.mk (by simp only[aA,seval]))⟩ ?_
 rintro⟨i,j,W⟩ ⟨i1,i2,i3,i4,i5,i6⟩
 simp only at i1 i2 i3 i4 i5 i6
 simp only
 simp only[aA,seval,aN7]
 refine aP (fun h=>?_) (fun h=>?_)
 · have hlt:j<l.length:=by simp at h;omega
   obtain⟨x,hx⟩:∃x,l[j]?=some x:=⟨_,eN hlt⟩
   have hWj:W[j]?=some (nv x):=by
    have e:(W.drop j)[0]?=((l.drop j).map nv)[0]?:=by rw[i6]
    simpa [hx] using e
   have hat:=uL (P:=prog) (t:=26) (b:=b) (w:=1) g7 hlt
   have qJ:=uL (P:=prog) (t:=26) (b:=b) (w:=1) (i:=i) (len:=l.length) g7 (by omega)
   rw[vF] at hat qJ
   have hld:=aLD (st:=st.aC b (.cells W)) (aB.aO _ _ _) hWj rfl
   have hca:=hc x (cD hx) W
   simp only[nv,fC,eL] at hld hca
   have hw:=bL (n:=(j:Int)+1)
   have hw2:=bL (n:=(i:Int)+1)
   simp only[hat,hld,aA,seval]
   refine(hca).to ?_
   simp only[aA,seval]
   have htl:(l.take (j+1)).filter (fun x=> !p x)=(l.take j).filter (fun x=> !p x)++(if p x=false then[x] else[]):=by
    rw[eA,hx,List.filter_append]
    congr 1
    cases hp:p x<;>simp [hp]
   have hdr:∀V:List AV,V.drop j=W.drop j∨V.drop (j+1)=W.drop (j+1)→V.drop (j+1)=(l.drop (j+1)).map nv:=fun V hV=>by
    have e:W.drop (j+1)=(l.drop (j+1)).map nv:=by rw[←E2,i6,←E6,E2]
    rcases hV with hV | hV
    · rw[←E2,hV,E2,e]
    · rw[hV,e]
   refine aP (fun h7=>?_) (fun h7=>?_)
   · have hp:p x=false:=by simpa using h7
     rw[aJ hp] at htl
     simp only[qJ,hw,hw2,aB.aO,cY,aA,seval,aN7]
     have hil:i<W.length:=by omega
     refine⟨by omega,(i+1,j+1,aK W i [nv x]),by simp only;omega,⟨by simp only;omega,by simp only;omega,by rw[a49 (by simp only[aS,aW];omega)];exact i3,by simp only;rw[a5B hil,htl,i4,sK];try rfl,by simp only;rw[htl,dM,aS,aW,←i5],hdr _ (.inr (set_drop hil (by omega)))⟩,aN.mk (by simp only[aA,seval])⟩
   · have hp:p x=true:=by simpa using h7
     rw[aF (by simp [hp]),iB] at htl
     simp only[hw,aA,seval]
     refine⟨(i,j+1,W),by simp only;omega,⟨by simp only;omega,by simp only;omega,i3,by simp only;rw[htl];exact i4,by simp only;rw[htl];exact i5,hdr W (.inl rfl)⟩,aN.mk (by simp only[aA,seval])⟩
 · have hge:j=l.length:=by simp at h;omega
   subst hge
   rw[dW] at i4 i5
   have hsl:∀(φ:AF) (y:Operand),φ.eval y=.int .i64 (i:Int)→gZ prog φ 26 (.mslice b 0 l.length 1) (some y) none none=some (.mslice b i (l.length - i) 1):=fun φ y hy=>by
    unfold gZ
    rw[aF (by simp [qP])]
    simp only[oF,g7,dY,hy]
    rw[aJ (by constructor<;>omega)]
    simp only[kX]
    by_cases h0:i=0
    · simp [h0]
    · simp [h0,i1]
   have hsh:∀(φ:AF) (y:Operand),φ.eval y=.int .i64 (i:Int)→gZ prog φ 26 (.mslice b 0 l.length 1) none (some y) none=some (.mslice b 0 i 1):=fun φ y hy=>by
    unfold gZ
    rw[aF (by simp [qP])]
    simp only[oF,g7,dY,hy]
    rw[aJ (by constructor<;>omega)]
    simp
   simp only[hsl,aA,seval]
   refine aV6 g7 AD (by decide) rfl rfl (aB.aO _ _ _) (by omega) ?_
   rw[cY]
   simp only[hsh,aA,seval]
   refine⟨aK W i (jX [.int .i64 0] (l.length - i)),by rw[←i5],rfl,?_⟩
   rw[←i5,a5A (by omega)]
   exact i4
end Go.AW
