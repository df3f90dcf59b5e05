import Derived.Test.YtimfffmcljmfgaaGreatDoorUup
import Derived.Test.YtimfffmcljmfgaaGreatDoorUum
import Derived.Shelf.Slices.Clone
import Derived.Test.YtimfffmcljmfgaaGreatDoorUuo
import Derived.Test.YtimfffmcljmfgaaGreatDoorUuk
import Derived.Test.YtimfffmcljmfgaaGreatDoorUuj
import Derived.Test.YtimfffmcljmfgaaGreatDoorUui
import Derived.Test.YtimfffmcljmfgaaGreatDoorUuf
import Derived.Test.YtimfffmcljmfgaaGreatDoorUuh
import Derived.Test.YtimfffmcljmfgaaGreatDoorUul
import Derived.Test.YtimfffmcljmfgaaGreatDoorUun
set_option linter.unusedSimpArgs false
set_option linter.unusedVariables false
set_option maxRecDepth 100000
namespace Go.AW
open Go.Proofs.Tryz
theorem OG(n:Nat):bytesOf [AV.int .u8 ((n:Nat):Int)]=some [UInt8.ofNat n]:=by simp only[bytesOf,kR,n0]
theorem M8{x:Int}{m:Nat}(h:x=(m:Int))(hm:m≤255):IntKind.wrap .u8 x=(m:Int):=by rw[IntKind.wrap_u8];omega
abbrev a34:=zi tI_3 (zi zI_3 (zi aX (zi tI_5 (zi zI_5 (zi lM (zi tI_9 (zi zI_9 (zi cI (zi tI_40 (zi zI_40 (zi sH (zi zS (zi zW yN)))))))))))))
theorem aSL(m:Nat)(hm:m≤25)(st:aB):aD prog 212 [.int .i64 (m:Int)] st (fun r st'=>r=.str (LF m)∧st'=st):=by
 refine wF [1000000] 1 func212 ntmps212 rfl rfl ?_
 intro _
 have hw:=M8 (x:=(m:Int)) rfl (by omega)
 obtain⟨y,hy⟩:∃y,y=65+m:=⟨_,rfl⟩
 have hw2:=M8 (x:=65+(m:Int)) (m:=y) (by omega) (by omega)
 simp -implicitDefEqProofs only[tR,hw,hw2,OG,aA,seval,a34]
 subst hy
 rfl
abbrev aNW:=zi tI_3 (zi zI_3 (zi aX (zi tI_5 (zi zI_5 (zi lM (zi tI_9 (zi zI_9 (zi cI (zi tI_40 (zi zI_40 (zi sH (zi zS (zi zW yN)))))))))))))
theorem WG(n:Nat)(hn:n≤1000000)(st:aB):aD prog 264 [.int .i64 (n:Int)] st (fun r st'=>r=.str (kM 20 n ⟨#[]⟩)∧st'=st):=by
 refine wF [1000000] 1 func264 ntmps264 rfl rfl ?_
 intro _
 have h1:((n:Int)< -9223372036854775807)=False:=cH (by omega)
 have h2:((n:Int)<0)=False:=cH (by omega)
 simp -implicitDefEqProofs only[h1,h2,bZ,aA,seval]
 generalize hT:kM 20 n ⟨#[]⟩=T
 refine iE (σ:=Nat×ByteArray×Nat) [1000000] [2] (fun x=>kM x.2.2 x.1 x.2.1=T∧x.1<10 ^ x.2.2∧x.1≤1000000∧1≤x.2.2∧x.2.1.size+x.2.2≤20) (fun x=>[(0,.int .i64 (x.1:Int)),(3,.str x.2.1)]) (fun _=>st) (fun x=>x.2.2) (by decide +kernel) ⟨(n,⟨#[]⟩,20),⟨hT,by simp only;omega,hn,by simp only;omega,by show 0+20≤20;omega⟩,aO.mk (by simp -implicitDefEqProofs only[aA,seval])⟩ ?_
 rintro⟨k,acc,f⟩ ⟨hd,hk,hk6,hf,hb⟩
 simp only at hd hk hk6 hf hb ⊢
 obtain⟨f,rfl⟩:∃f',f=f'+1:=⟨f - 1,by omega⟩
 have hm:maxLen=9223372036854775807:=by rfl
 have hsz:∀u:UInt8,(⟨#[u]⟩:ByteArray).size+acc.size≤maxLen:=fun u=>by show 1+acc.size≤_;omega
 have hr:((k:Int)).tmod 10=((k % 10:Nat):Int):=by rw[Int.tmod_eq_emod_of_nonneg (by omega)];omega
 have hq:((k:Int)).tdiv 10=((k / 10:Nat):Int):=by rw[Int.tdiv_eq_ediv_of_nonneg (by omega)];omega
 simp -implicitDefEqProofs only[aA,seval]
 refine aQ (fun h3=>?_) (fun h3=>?_)
 · simp only[bJ] at h3
   unfold kM at hd
   rw[aH (by omega)] at hd
   rw[Nat.pow_succ] at hk
   obtain⟨y,hy⟩:∃y,y=48+k % 10:=⟨_,rfl⟩
   obtain⟨q,hq'⟩:∃q,q=k / 10:=⟨_,rfl⟩
   obtain⟨r,hr'⟩:∃r,r=k % 10:=⟨_,rfl⟩
   rw[←hr'] at hr
   rw[←hq'] at hq
   have hwr:=bO (n:=(r:Int))
   have hw:=nY (x:=48+(r:Int)) (m:=y) (by omega) (by omega)
   have hw8:=M8 (x:=(y:Int)) (m:=y) rfl (by omega)
   have hw2:=bO (n:=(q:Int))
   simp -implicitDefEqProofs only[tR,hr,hq,hw,hw8,hw2,OG,hsz,aA,seval,aNW]
   refine⟨(q,⟨#[UInt8.ofNat y]⟩++acc,f),by simp only;omega,⟨by rw[hq',hy];exact hd,by simp only;omega,by simp only;omega,?_,?_⟩,aO.mk (by simp -implicitDefEqProofs only[aA,seval]<;>rfl)⟩
   · show 1≤f
     rcases NL f with rfl | h
     · simp only[Nat.pow_zero] at hk;omega
     · exact h
   · show(⟨#[UInt8.ofNat y]⟩++acc:ByteArray).size+f≤20
     rw[dG]
     show 1+acc.size+f≤20
     omega
 · simp only[dJ] at h3
   unfold kM at hd
   rw[aE (by omega)] at hd
   obtain⟨y,hy⟩:∃y,y=48+k:=⟨_,rfl⟩
   have hw:=nY (x:=48+(k:Int)) (m:=y) (by omega) (by omega)
   have hw8:=M8 (x:=(y:Int)) (m:=y) rfl (by omega)
   simp -implicitDefEqProofs only[tR,hw,hw8,OG,hsz,aA,seval,aNW]
   rw[←hd,hy]
theorem aSH(n:Int)(h1: -999≤n)(h2:n≤999)(st:aB):aD prog 263 [.int .i64 n] st (fun r st'=>r=.str (m8 n)∧st'=st):=by
 refine wF [1000000] 1 func263 ntmps263 rfl rfl ?_
 intro _
 unfold m8
 have hm:maxLen=9223372036854775807:=by rfl
 by_cases h:n<0
 · rw[aH h]
   obtain⟨m,hm'⟩:∃m:Nat,m=(-n).toNat:=⟨_,rfl⟩
   rw[←hm']
   have h':=dB h
   have hw:=nY (x:=0 - n) (m:=m) (by omega) (by omega)
   have hw':=nY (x:= -n) (m:=m) (by omega) (by omega)
   have hs:(⟨#[45]⟩:ByteArray).size+(kM 20 m ⟨#[]⟩).size≤maxLen:=by have:=zP 20 m ⟨#[]⟩;have h0:(⟨#[]⟩:ByteArray).size=0:=rfl;show 1+_≤_;omega
   simp -implicitDefEqProofs only[h',hw,↓reduceIte,bU,aA,seval]
   refine(WG m (by omega) _).to ?_
   simp -implicitDefEqProofs only[hs,↓reduceIte,aA,seval]
 · rw[aE h]
   obtain⟨m,rfl⟩:=tL (show 0≤n by omega)
   have h':=cH h
   rw[kR]
   simp -implicitDefEqProofs only[h',bZ,aA,seval]
   refine(WG m (by omega) _).to ?_
   simp -implicitDefEqProofs only[aA,seval]
abbrev H5:=zi tI_3 (zi zI_3 (zi aX (zi tI_9 (zi zI_9 (zi cI (zi tI_31 (zi zI_31 (zi aN (zi bG (zi bH (zi b9 (zi tI_66 (zi zI_66 (zi bQ (zi bR (zi bS (zi bT bP)))))))))))))))))
theorem aSV(t:Tm)(ht:Ws t)(h0:t.k=3→t.ts= [])(st:aB):aD prog 281 [t.av] st (fun r st'=>r=.str (DO t)∧st'=st):=by
 obtain⟨k,n,s,ts⟩:=t
 have hp:=JV (.mk k n s ts)
 simp only[aV] at hp ⊢
 rw[show DO (.mk k n s ts)=if k=1 then LF n else if k=2 then m8 n else s from rfl]
 have h0:k=3→ts= []:=h0
 refine wF [1000000] 1 func281 ntmps281 rfl rfl ?_
 intro _
 rcases HE ht.own.1 with ⟨rfl,h1,h2,rfl,h4⟩ | ⟨rfl,h1,h2,rfl,h4⟩ | ⟨rfl,rfl,h2,h4⟩
 · obtain⟨m,rfl⟩:=tL h1
   simp -implicitDefEqProofs only[aA,seval,H5]
   refine(aSL m (by omega) _).to ?_
   simp -implicitDefEqProofs only[aA,seval]
 · skip
   simp -implicitDefEqProofs only[aA,seval,H5]
   refine(aSH n h1 h2 _).to ?_
   simp -implicitDefEqProofs only[aA,seval]
 · obtain rfl:=h0 rfl
   simp -implicitDefEqProofs only[aW,aA,seval,H5]
   refine(hp _).to ?_
   rw[show rH (.mk 3 0 s [])=false by rw[aLN];simp]
   simp -implicitDefEqProofs only[aA,seval,H5]
   refine iE (σ:=Unit) [1000000] [1,2] (fun _=>True) (fun _=>[(3,.str s),(4,.int .i64 0)]) (fun _=>st) (fun _=>0) (by decide +kernel) ⟨(),trivial,aO.mk (by simp -implicitDefEqProofs only[aA,seval])⟩ ?_
   rintro _ _
   simp -implicitDefEqProofs only[aZ,aA,seval,H5]
theorem RM{N:Int}{t:Tm}(h:bB N t):(t.k=1∨t.k=2∨t.k=3)∧(t.k=1→t.ts= [])∧(t.k=2→-999≤t.n∧t.n≤999)∧(t.k=3→t.s.size≤6)∧t.ts.length≤4:=by
 obtain⟨h,-⟩:=h
 obtain⟨k,n,s,ts⟩:=t
 have hk:=h.kind
 refine⟨hk.1,fun e=>?_,fun e=>?_,fun e=>?_,hk.2⟩<;>simp only[Tm.k] at e<;>subst e
 · exact h.var.2.2.2
 · have:=(h.own (by decide)).1
   simp [eD] at this
   simp only[Tm.n];omega
 · have:=(h.own (by decide)).1
   simp [eD] at this
   exact(RB this.1.2).2
theorem a0W{N:Int}{t:Tm}(h:bB N t){x:Tm}{l:List Tm}(e:t.ts=x::l):bB N x:=by
 have h1:t.k≠1:=fun hk=>by have:=(RM h).2.1 hk;rw[e] at this;cases this
 exact qJ N t h1 h x (by rw[e];simp)
theorem aZU{N:Int}{t:Tm}(h:bB N t):x6 t=match t.ts with
 | []=>⟨#[]⟩
 | x::_=>Q6 x:=by
 unfold x6
 by_cases h1:t.k=1
 · rw[aH h1,(RM h).2.1 h1]
 · rw[aE h1]
   try rfl
abbrev L6:=zi tI_3 (zi zI_3 (zi aX (zi tI_9 (zi zI_9 (zi cI (zi tI_31 (zi zI_31 (zi aN (zi bG (zi bH (zi b9 (zi tI_66 (zi zI_66 (zi bQ (zi bR (zi bS (zi bT bP)))))))))))))))))
theorem WB{N:Int}{t:Tm}(ht:bB N t)(st:aB)(hT:st sY=some wG):aD prog 185 [t.av] st (fun r st'=>r=.str (x6 t)∧st'=st):=by
 refine aD.drop ?_
 rw[aZU ht]
 have hx:=@a0W N t ht
 obtain⟨k,n,s,ts⟩:=t
 simp only[Tm.ts] at hx ⊢
 rw[aV]
 refine wF [1000000] 1 func185 ntmps185 rfl rfl ?_
 intro _
 simp -implicitDefEqProofs only[aF,aA,seval,L6]
 refine aQ (fun h=>?_) (fun h=>?_)
 · have h':ts= []:=pT (by simp at h;simp [h])
   subst h'
   simp -implicitDefEqProofs only[aA,seval]
   first | exact aM.refl _ | exact⟨aM.refl _,rfl⟩
 cases ts with
 | nil=>simp at h
 | cons x l=>
  obtain⟨hk,h1,h2,h3,h4⟩:=RM (hx rfl)
  obtain⟨xk,xn,xs,xt⟩:=x
  simp only[Tm.k,Tm.ts,Tm.n,Tm.s] at hk h1 h2 h3 h4
  have hat:dF prog 31 (.slice ((Tm.mk xk xn xs xt).av::l.map Tm.av)) (.int .i64 0)=some (.pptr (.agg [.int .i64 xk,.int .i64 xn,.str xs,.slice (xt.map Tm.av)])):=by
   rw[←aV]
   exact bM (av:=Tm.av) (l:=.mk xk xn xs xt::l) (i:=0) aN rfl (aJ _)
  have hdx:m8 (xt.length:Int)=kM 20 xt.length ⟨#[]⟩:=by unfold m8;rw[aE (by omega),kR]
  have hu:Q6 (.mk xk xn xs xt)=if xk=1 then⟨#[]⟩ else if xk=2 then m8 xn else xs++⟨#[47]⟩++kM 20 xt.length ⟨#[]⟩:=rfl
  simp only
  rw[hu]
  simp -implicitDefEqProofs only[hat,aA,↓aU,seval,L6]
  refine aQ (fun h=>?_) (fun h=>?_)
  · rw[aH (by simpa using h)]
    simp -implicitDefEqProofs only[aA,seval]
    first | exact aM.refl _ | exact⟨aM.refl _,rfl⟩
  have h5:xk≠1:=by simpa using h
  rw[aE h5]
  simp -implicitDefEqProofs only[aA,seval]
  refine aQ (fun h=>?_) (fun h=>?_)
  · have h6:xk=2:=by simpa using h
    rw[aH h6]
    simp -implicitDefEqProofs only[aA,seval,L6]
    refine(aLA xn (h2 h6).1 (h2 h6).2 _ hT).to ?_
    simp -implicitDefEqProofs only[aA,seval]
    first | exact aM.refl _ | exact⟨aM.refl _,rfl⟩
  have h6:xk≠2:=by simpa using h
  rw[aE h6]
  have hs:=h3 (by omega)
  have hm:maxLen=9223372036854775807:=by rfl
  have hs1:xs.size+(⟨#[47]⟩:ByteArray).size≤maxLen:=by show xs.size+1≤_;omega
  have hs2:(xs++(⟨#[47]⟩:ByteArray)).size+(kM 20 xt.length ⟨#[]⟩).size≤maxLen:=by
   have:=zP 20 xt.length ⟨#[]⟩
   have h0:(⟨#[]⟩:ByteArray).size=0:=rfl
   rw[dG]
   show xs.size+1+_≤_
   omega
  simp -implicitDefEqProofs only[aA,seval]
  refine CG mixed (by decide +kernel) (by decide +kernel) ?_
  simp -implicitDefEqProofs only[aF,hs1,↓reduceIte,aA,seval,L6]
  refine iD (aLA xt.length (by omega) (by omega) _ hT) ?_
  simp -implicitDefEqProofs only[hs2,hdx,↓reduceIte,aA,seval]
  first | exact aM.refl _ | exact⟨aM.refl _,rfl⟩
theorem aR1(a b:ByteArray)(st:aB):aD prog 189 [.str a,.str b] st (fun r st'=>r=.bool (KM a b)∧st'=st):=by
 unfold KM
 refine wF [1000000] 2 func189 ntmps189 rfl rfl ?_
 intro _
 simp -implicitDefEqProofs only[aA,seval]
 refine cV (fun h=>?_) (fun h=>?_)
 case refine_2=>
  have h':decide (a=⟨#[]⟩)=true:=by simpa using h
  simp -implicitDefEqProofs only[h,aA,seval]
  try simp []
 have h1:decide (a=⟨#[]⟩)=false:=by simpa using h
 simp -implicitDefEqProofs only[h,aA,seval]
 refine cV (fun h=>?_) (fun h=>?_)
 case refine_2=>
  have h':decide (b=⟨#[]⟩)=true:=by simpa using h
  simp -implicitDefEqProofs only[h,aA,seval]
  try simp []
 have h2:decide (b=⟨#[]⟩)=false:=by simpa using h
 simp -implicitDefEqProofs only[h,aA,seval]
 try simp [h1,h2]
theorem SK{h:bK}{st:aB}{b:Nat}{cs cs':List AV}(hb:st b=some (.cells cs)):cB h st h (st.aC b (.cells cs')):=
 ⟨c7 _,fun y _ e=>⟨rfl,by
  have hne:y≠b:=by rintro rfl;rw[hb] at e;cases e
  rw[aB.aL _ _ hne];exact e⟩,fun _ c _ _ e=>⟨c,e,rfl⟩⟩
theorem XO{h:bK}{b:Nat}:∀ {vs:List Value} {off:Nat} (k:Nat),eY h b off vs→eY h b off (vs.take k)
 | _,_,0,_=>by simp [eY]
 | [],_,k+1,_=>by simp [eY]
 | v::vs,off,k+1,x=>⟨x.1,XO k x.2⟩
theorem a2K{h:bK}{st:aB}{b:Nat}{cs:List AV}(k:Nat)(hb:st b=some (.cells cs))(S:cY h st):cY h (st.aC b (.cells (cs.take k))):=fun y o e=>by
 have T:=SK (h:=h) (cs':=cs.take k) hb
 by_cases hy:y=b
 · subst hy
   rw[aB.aP] at e
   cases e
   obtain⟨h1,c,t,e1,e2,vs,e3,e4⟩:=S y _ hb
   exact⟨h1,c,t,e1,lA (by rw[dS];omega) e2,vs.take k,XO k e3,aY.mono T _ _ (e4.take k)⟩
 · rw[aB.aL _ _ hy] at e
   obtain⟨h1,h2⟩:=S y o e
   exact⟨h1,kT.mono T rfl h2⟩
theorem aD.cut{P:Program}{g:FuncId}{args:List AV}{st:aB}{Q:AV→aB→Prop}(x:aD P g args st (fun r st'=>∃b cs k,st' b=some (.cells cs)∧Q r (st'.aC b (.cells (cs.take k))))):aD P g args st Q:=
 x.mT fun r st' ⟨b,cs,k,h1,h2⟩=>⟨r,_,fun h S=>⟨a2K k h1 S,SK h1⟩,fun h v S y=>y.mono (SK h1),h2⟩
theorem aKQ{st:aB}{b i:Nat}{cs:List AV}{x:AV}(hs:st b=some (.cells cs))(hx:cs[i]?=some x)(ha:x.isAgg=false):g8 prog st 3 (.ptr b i)=some x:=by
 simp [g8,tI_3,hs,sub,hx,ha]
abbrev a3U:=zi tI_3 (zi zI_3 (zi aX (zi tI_46 (zi zI_46 (zi dH (zi fA (zi eX fB)))))))
theorem a0S(l:List Nat)(g:FuncId)(dP:List AV)(p:Nat→Bool)(b:Nat)(cs:List AV)(h9:l.length≤1048576)(st:aB)(hb:st b=some (.cells cs))(hcs:∀(i x:Nat),l[i]?=some x→cs[i]?=some (nv x))(hc:∀x∈l,aD prog g ([nv x]++dP) st (fun r st'=>r=.bool (p x)∧st'=st)) :
 aD prog 259 [.mslice b 0 l.length 1,.func g dP] st (fun r st'=>r=.int .i64 (oH p l 0)∧st'=st):=by
 refine wF [1000000] 2 func259 ntmps259 rfl rfl ?_
 intro _
 simp -implicitDefEqProofs only[aA,seval,a3U]
 refine eP (σ:=Unit) [1000000] [0,1,7] l (fun i _=>oH p (l.drop i) i=oH p l 0) (fun i _=>[(8,.int .i64 i)]) (fun _ _=>st) (by decide +kernel) ⟨(),rfl,aO.mk (by simp -implicitDefEqProofs only[aA,↓aU,seval])⟩ (fun i x _ hx hlt bV hdr hinv=>?_) (fun _ hge hinv=>?_)
 case refine_2=>
  simp -implicitDefEqProofs only[hge,aA,seval]
  rw[←hinv,kK]
  try rfl
 rw[hdr,oH] at hinv
 have hw:=bO (n:=(i:Int)+1)
 have hat:=uC (P:=prog) (t:=46) (b:=b) (w:=1) dH hlt
 rw[uV] at hat
 have hld:=aKQ hb (hcs i x hx) rfl
 have hca:=hc x (cP hx)
 simp only[nv,fL,eR] at hld hca
 simp -implicitDefEqProofs only[bV,hat,hld,aA,seval]
 refine(hca).to ?_
 simp -implicitDefEqProofs only[aA,seval]
 refine aQ (fun h=>?_) (fun h=>?_)
 · rw[aH h] at hinv
   simp -implicitDefEqProofs only[hinv,aA,seval]
 · rw[aE (by simp [h])] at hinv
   simp -implicitDefEqProofs only[hw,aA,seval]
   exact⟨(),by rw[←hinv],aO.mk (by simp -implicitDefEqProofs only[aA,seval])⟩
end Go.AW

namespace Go.AW
open Go.Proofs.Tryz
open Go.Shelf
set_option linter.unusedSimpArgs false
set_option linter.unusedVariables false
set_option maxRecDepth 100000
def aUZ:Go.Shelf.Ren:=⟨fun | 15=>187 | n=>n,fun | 22=>46 | 3=>3 | 4=>4 | n=>n,fun | n=>n⟩
theorem aUY:Go.Proofs.Lays2.n15 prog aUZ:={
 mixed:=by kernel_rfl
 f15:=func187.trans (gV some (by kernel_rfl))
 t3:=aX
 a3:=isAgg3
 z3:=sizeOf3
 v3:=zeroValue3
 t4:=cE
 a4:=isAgg4
 z4:=sizeOf4
 v4:=zeroValue4
 t22:=fB
 a22:=isAgg46
 z22:=sizeOf46
 v22:=zeroValue46
 i3:=by kernel_rfl }
def AI(i:Nat):Value:=.int .i64 (i:Int)
theorem UH{h:bK}{st:aB}{b:Nat}:∀ {l:List Nat} {off:Nat},c9 h st b off (l.map nv)→∀(j x:Nat),l[j]?=some x→cellAt h b (off+j)=some (AI x)
 | [],_,_,j,x,e=>by simp at e
 | a::l,off,v,0,x,e=>by
  simp only[I1,Option.some.injEq] at e
  subst e
  obtain⟨⟨cs,c1,c2,c3⟩,_⟩:=v
  have c3:cs= [AI a]:=c3
  subst c3
  exact c1.1
 | a::l,off,v,j+1,x,e=>by
  rw[I0] at e
  have:=UH v.2 j x e
  rwa [show(nv a).width=1 from rfl,yY,Nat.add_comm 1 j] at this
theorem UF{h:bK}{st:aB}:∀l:List Nat,aY h st (l.map nv) (l.map AI)
 | []=>rfl
 | a::l=>⟨AI a,l.map AI,rfl,rfl,UF l⟩
theorem a0Q(l:List Nat)(hl:l≠[])(h9:l.length≤1048576)(st:aB):aD prog 187 [.slice (l.map nv)] st (fun r st'=>∃b,st b=none∧r=.mslice b 0 l.length 1∧st'=st.aC b (.cells (l.map nv))):=by
 refine⟨⟨_,func187,rfl,by kernel_rfl⟩,fun w vs S V=>?_⟩
 obtain⟨v,r,rfl,v1,v2⟩:=V
 obtain rfl:r= []:=v2
 have hne:l.map nv≠[]:=by simpa using hl
 obtain⟨hag,hv⟩:=v1
 unfold VC at hv
 rcases hv with ⟨_,h⟩ | ⟨b,off,cap,e1,e2,e3,e4,e5,e6,e7⟩
 · exact absurd h hne
 obtain rfl:v=.slice (some ⟨b,off,none⟩) (l.map nv).length cap:=by
  cases v<;>first | exact absurd hag Bool.false_ne_true | simp_all [Value.cells]
 rw[aF]
 have iG:∀j,j<(l.map fun i:Nat=>(i:Int)).length→w.cell? ⟨b,off+j,none⟩=some (.int .i64 ((l.map fun i:Nat=>(i:Int)).getD j 0)):=fun j hj=>by
  rw[aF] at hj
  have h1:=UH e7 j l[j] (eE hj)
  unfold cellAt at h1
  unfold World.cell?
  simp only[T0,mW,eE hj,n0,BW]
  split at h1
  · rename_i hb;rw[hb];exact h1
  · cases h1
 refine(Go.Proofs.Any.slices_Clone_int aUY b off l.length cap (l.map fun i:Nat=>(i:Int)) w (by rw[aF];omega) (by omega) iG).mono ?_
 rintro e w' ⟨v',rfl,⟨_,ho⟩,hnn,hB⟩
 rcases ho with ⟨h,_⟩ | ⟨g,aUE,cur,rfl,h1,h2,h3,h4,h5,h6⟩
 · exact absurd h hnn
 have X:Ext w.heap w'.heap:=⟨hB.size,hB.block⟩
 have hg:st g=none:=by
  cases hs:st g with
  | none=>rfl
  | some o=>exact absurd (S g o hs).1 (by omega)
 have hgl:g<w'.heap.size:=(IU.1 h2).1
 have T:cB w.heap st w'.heap (st.aC g (.cells (l.map nv))):=⟨hB.size,fun y hy hn=>⟨hB.block y hy,by rw[aB.aL _ _ (by omega)];exact hn⟩,(X.step st).shape⟩
 have h7:(l.map fun i:Nat=>(i:Int)).take l.length=l.map fun i:Nat=>(i:Int):=lO (by rw[aF];omega)
 rw[uV] at h5 h6
 rw[h7,tN] at h6
 have hvs:(l.map AI)=(cur.toList.drop 0).take l.length:=by rw[qT,h6];try rfl
 refine⟨_,.mslice g 0 l.length 1,st.aC g (.cells (l.map nv)),rfl,⟨rfl,aUE,rfl,h3,h4,cur,_,h2,by omega⟩,fun y o e=>?_,T,⟨hB.os,hB.tape,hB.output⟩,g,hg,rfl,rfl⟩
 by_cases hy:y=g
 · subst hy
   rw[aB.aP] at e
   cases e
   exact⟨hgl,cur,_,h2,by rw[aF];omega,l.map AI,by rw[hvs];exact zL h2 _ 0 (by omega),UF l⟩
 · rw[aB.aL _ _ hy] at e
   obtain⟨p1,p2⟩:=S y o e
   exact⟨tP p1 hB.size,kT.mono T (hB.block y p1) p2⟩
end Go.AW

namespace Go.AW
open Go.Proofs.Tryz
theorem aUW{P:Program}{t:TypeId}{ag:Bool}{sz b off n:Nat}{zs cs:List AV}{st:aB}{K:AV→aB→Prop}(hI:eI P t=some (ag,sz))(hZ:eZ P t=some zs)(h0:sz≠0)(hz:zs.length=sz)(hst:zs.all AV.storable=true)(hb:st b=some (.cells cs))(fD:off+n*sz≤cs.length)
 (hK:K (.tup []) (st.aC b (.cells (aK cs off (jS zs n))))):uZ P t st (.mslice b off n sz) K:=by
 unfold uZ
 rw[hI,hZ]
 simp only[hb]
 exact⟨trivial,h0,hz,hst,fD,hK⟩
theorem a2F{cs:List AV}{i:Nat}{x:List AV}(h:i≤cs.length):(aK cs i x).take i=cs.take i:=by
 unfold aK
 rw[nJ,List.take_left' (by rw[dS];omega)]
theorem a2G{cs:List AV}{i:Nat}{x:AV}(h:i<cs.length):(aK cs i [x]).take (i+1)=cs.take i++ [x]:=by
 unfold aK
 rw[List.take_left' (by rw[dM,dS,aS,aZ];omega)]
theorem a2E{cs:List AV}{i:Nat}{x:List AV}(h:i+x.length≤cs.length):(aK cs i x).length=cs.length:=by
 unfold aK
 simp only[dM,dS,mX]
 omega
theorem set_drop{cs:List AV}{i j:Nat}{x:AV}(h:i<cs.length)(hj:i<j):(aK cs i [x]).drop j=cs.drop j:=by
 unfold aK
 rw[List.drop_append,BR (by rw[dM,dS,aS,aZ];omega),eR,EX]
 congr 1
 rw[dM,dS,aS,aZ]
 omega
structure TZ (l:List Nat) (p:Nat→Bool) (i j:Nat) (W:List AV):Prop where
 lt:i<j
 le:j≤l.length
 len:W.length=l.length
 head:W.take i=((l.take j).filter fun x=> !p x).map nv
 hlen:i=((l.take j).filter fun x=> !p x).length
 tail:W.drop j=(l.drop j).map nv
abbrev aNI:=zi tI_3 (zi zI_3 (zi aX (zi tI_4 (zi zI_4 (zi cE (zi tI_46 (zi zI_46 (zi dH (zi fA (zi eX fB))))))))))
theorem a0R(l:List Nat)(g:FuncId)(dP:List AV)(p:Nat→Bool)(b:Nat)(h9:l.length≤1048576)(st:aB)(hb:st b=some (.cells (l.map nv)))(hc:∀x∈l,∀cs,aD prog g ([nv x]++dP) (st.aC b (.cells cs)) (fun r st'=>r=.bool (p x)∧st'=st.aC b (.cells cs))) :
 aD prog 186 [.mslice b 0 l.length 1,.func g dP] st (fun r st'=>∃W,r=.mslice b 0 (l.filter fun x=> !p x).length 1∧st'=st.aC b (.cells W)∧W.take (l.filter fun x=> !p x).length=(l.filter fun x=> !p x).map nv):=by
 have hst:st.aC b (.cells (l.map nv))=st:=by
  funext y
  simp only[aB.aC]
  split
  · rename_i h;rw[h,hb]
  · rfl
 have QI:=a0S l g dP p b (l.map nv) h9 st hb (fun i x h=>by simp [h]) (fun x hx=>by have:=hc x hx (l.map nv);rwa [hst] at this)
 refine wF [1000000] 2 func186 ntmps186 rfl rfl ?_
 intro _
 simp -implicitDefEqProofs only[aA,seval]
 refine(QI).to ?_
 simp -implicitDefEqProofs only[aA,seval]
 rcases Q4 p l 0 (by omega) with ⟨h1,h2⟩ | ⟨j0,x0,h1,h2,h3,h4,h5⟩
 · have dX:(l.filter fun x=> !p x)=l:=List.filter_eq_self.2 fun a ha=>by
    have:=List.any_eq_false.1 h2 a ha
    simpa using this
   rw[h1,dX]
   simp -implicitDefEqProofs only[aA,seval]
   exact⟨l.map nv,hst.symm,by rw[lO (by rw[aF];exact c7 _)]⟩
 have hj:j0<l.length:=(gP.1 h2).1
 have hf0:((l.take (j0+1)).filter fun x=> !p x)=l.take j0:=by
  rw[fG,h2,List.filter_append]
  simp only[BX,List.filter_cons,h3,kI,iL,dY,List.filter_nil,g9]
  refine List.filter_eq_self.2 fun a ha=>?_
  obtain⟨k,hk⟩:=BS ha
  rw[List.getElem?_take] at hk
  split at hk
  · rename_i h;rw[h5 k a h hk];try rfl
  · cases hk
 have hI0:TZ l p j0 (j0+1) (l.map nv):=⟨by omega,by omega,by rw[aF],by rw[hf0,E0],by rw[hf0,dS];omega,by rw[EZ]⟩
 rw[h1,Int.zero_add]
 have hn1:((j0:Int)= -1)=False:=cH (by omega)
 have hw0:=bO (n:=(j0:Int)+1)
 simp -implicitDefEqProofs only[hn1,hw0,bZ,aA,seval]
 refine iE (σ:=Nat×Nat×List AV) [1000000] [0,1,4] (fun x=>TZ l p x.1 x.2.1 x.2.2) (fun x=>[(5,.int .i64 (x.1:Int)),(6,.int .i64 (x.2.1:Int))]) (fun x=>st.aC b (.cells x.2.2)) (fun x=>l.length - x.2.1) (by decide +kernel) ⟨(j0,j0+1,l.map nv),hI0,(by simp only[hst];exact aO.mk (by simp -implicitDefEqProofs only[aA,seval]))⟩ ?_
 rintro⟨i,j,W⟩ ⟨i1,i2,i3,i4,i5,i6⟩
 simp only at i1 i2 i3 i4 i5 i6
 simp only
 simp -implicitDefEqProofs only[aA,seval,aNI]
 refine aQ (fun h=>?_) (fun h=>?_)
 · have hlt:j<l.length:=by simp at h;omega
   obtain⟨x,hx⟩:∃x,l[j]?=some x:=⟨_,eE hlt⟩
   have hWj:W[j]?=some (nv x):=by
    have e:(W.drop j)[0]?=((l.drop j).map nv)[0]?:=by rw[i6]
    simpa [hx] using e
   have hat:=uC (P:=prog) (t:=46) (b:=b) (w:=1) dH hlt
   have sM:=uC (P:=prog) (t:=46) (b:=b) (w:=1) (i:=i) (len:=l.length) dH (by omega)
   rw[uV] at hat sM
   have hld:=aKQ (st:=st.aC b (.cells W)) (aB.aP _ _ _) hWj rfl
   have hca:=hc x (cP hx) W
   simp only[nv,fL,eR] at hld hca
   have hw:=bO (n:=(j:Int)+1)
   have hw2:=bO (n:=(i:Int)+1)
   simp -implicitDefEqProofs only[hat,hld,aA,seval]
   refine(hca).to ?_
   simp -implicitDefEqProofs only[aA,seval]
   have htl:(l.take (j+1)).filter (fun x=> !p x)=(l.take j).filter (fun x=> !p x)++(if p x=false then[x] else[]):=by
    rw[fG,hx,List.filter_append]
    congr 1
    cases hp:p x<;>simp [hp]
   have hdr:∀V:List AV,V.drop j=W.drop j∨V.drop (j+1)=W.drop (j+1)→V.drop (j+1)=(l.drop (j+1)).map nv:=fun V hV=>by
    have e:W.drop (j+1)=(l.drop (j+1)).map nv:=by rw[←EX,i6,←EZ,EX]
    rcases hV with hV | hV
    · rw[←EX,hV,EX,e]
    · rw[hV,e]
   refine aQ (fun h7=>?_) (fun h7=>?_)
   · have hp:p x=false:=by simpa using h7
     rw[aH hp] at htl
     simp -implicitDefEqProofs only[sM,hw,hw2,aB.aP,dC,aA,seval,aNI]
     have hil:i<W.length:=by omega
     refine⟨by omega,(i+1,j+1,aK W i [nv x]),by simp only;omega,⟨by simp only;omega,by simp only;omega,by rw[a2E (by simp only[aS,aZ];omega)];exact i3,by simp only;rw[a2G hil,htl,i4,tM];try rfl,by simp only;rw[htl,dM,aS,aZ,←i5],hdr _ (.inr (set_drop hil (by omega)))⟩,aO.mk (by simp -implicitDefEqProofs only[aA,seval])⟩
   · have hp:p x=true:=by simpa using h7
     rw[aE (by simp [hp]),g9] at htl
     simp -implicitDefEqProofs only[hw,aA,seval]
     refine⟨(i,j+1,W),by simp only;omega,⟨by simp only;omega,by simp only;omega,i3,by simp only;rw[htl];exact i4,by simp only;rw[htl];exact i5,hdr W (.inl rfl)⟩,aO.mk (by simp -implicitDefEqProofs only[aA,seval])⟩
 · have hge:j=l.length:=by simp at h;omega
   subst hge
   rw[eS] at i4 i5
   have hsl:∀(φ:AF) (y:Operand),φ.eval y=.int .i64 (i:Int)→g7 prog φ 46 (.mslice b 0 l.length 1) (some y) none none=some (.mslice b i (l.length - i) 1):=fun φ y hy=>by
    unfold g7
    rw[aE (by simp [qG])]
    simp only[oA,dH,dZ,hy]
    rw[aH (by constructor<;>omega)]
    simp only[kR]
    by_cases h0:i=0
    · simp [h0]
    · simp [h0,i1]
   have hsh:∀(φ:AF) (y:Operand),φ.eval y=.int .i64 (i:Int)→g7 prog φ 46 (.mslice b 0 l.length 1) none (some y) none=some (.mslice b 0 i 1):=fun φ y hy=>by
    unfold g7
    rw[aE (by simp [qG])]
    simp only[oA,dH,dZ,hy]
    rw[aH (by constructor<;>omega)]
    simp
   simp -implicitDefEqProofs only[hsl,aA,seval]
   refine aUW dH eX (by decide) rfl rfl (aB.aP _ _ _) (by omega) ?_
   rw[dC]
   simp -implicitDefEqProofs only[hsh,aA,seval]
   refine⟨aK W i (jS [.int .i64 0] (l.length - i)),by rw[←i5],rfl,?_⟩
   rw[←i5,a2F (by omega)]
   exact i4
abbrev aNK:=zi tI_3 (zi zI_3 (zi aX (zi tI_4 (zi zI_4 (zi cE (zi tI_9 (zi zI_9 (zi cI (zi tI_29 (zi zI_29 (zi gW (zi kA (zi kB (zi lL (zi tI_66 (zi zI_66 (zi bQ (zi bR (zi bS (zi bT (zi bP (zi tI_84 (zi zI_84 (zi kV (zi kW kU)))))))))))))))))))))))))
theorem aRZ{p:List Cl}(hp:∀c∈p,gE c∧c.2.length≤6)(key:ByteArray)(x:Nat)(hx:x<p.length)(st:aB)(hT:st sY=some wG):aD prog 188 [nv x,.pptr (.slice (p.map bX)),.pptr (.str key)] st (fun r st'=>r=.bool (!CW p key x)∧st'=st):=by
 obtain⟨c,hc⟩:∃c,p[x]?=some c:=⟨_,eE hx⟩
 have hat:=bM (av:=bX) (P:=prog) gW hc (nO c)
 have hck:=WB (hp c (cP hc)).1.head st hT
 have hF:CW p key x=KM (x6 c.1) key:=by unfold CW;rw[hc]
 rw[hF]
 obtain⟨⟨k,n,s',ts⟩,bd⟩:=c
 rw[fY] at hat
 simp only[aV] at hck
 simp only[nv]
 refine wF [1000000] 3 func188 ntmps188 rfl rfl ?_
 intro _
 simp -implicitDefEqProofs only[aA,seval]
 refine CG mixed (by decide +kernel) (by decide +kernel) ?_
 simp -implicitDefEqProofs only[hat,aA,seval,aNK]
 refine iD hck ?_
 simp -implicitDefEqProofs only[aA,seval,aNK]
 refine iD (aR1 _ key _) ?_
 simp -implicitDefEqProofs only[aA,seval]
abbrev aNJ:=zi tI_9 (zi zI_9 (zi cI (zi tI_29 (zi zI_29 (zi gW (zi kA (zi kB (zi lL (zi tI_46 (zi zI_46 (zi dH (zi fA (zi eX (zi fB (zi tI_66 (zi zI_66 (zi bQ (zi bR (zi bS (zi bT bP))))))))))))))))))))
theorem aRY{p:List Cl}(hp:∀c∈p,gE c∧c.2.length≤6){N:Int}{t:Tm}(ht:bB N t)(l:List Nat)(hl:l≠[])(hlt:∀i∈l,i<p.length)(h9:l.length≤1048576)(st:aB)(hT:st sY=some wG):aD prog 104 [.slice (p.map bX),.slice (l.map nv),t.av] st (fun r st'=>r=.slice ((sF p t l).map nv)∧st'=st):=by
 refine aD.freeze (aD.cut ?_)
 have hk:=WB ht st hT
 have hcl:=a0Q l hl h9 st
 have xV:(l.filter fun x=> !(!CW p (x6 t) x))=sF p t l:=by unfold sF;simp only[Bool.not_not]
 generalize hkt:x6 t=key at *
 obtain⟨tk,tn,ts',tts⟩:=t
 simp only[aV] at hk ⊢
 refine wF [1000000] 3 func104 ntmps104 rfl rfl ?_
 intro _
 simp -implicitDefEqProofs only[aA,seval,aNJ]
 refine(hk).to ?_
 simp -implicitDefEqProofs only[aA,↓aU,seval,aNJ]
 refine(hcl).mono ?_
 rintro _ _ ⟨b,hb,rfl,rfl⟩
 simp -implicitDefEqProofs only[aA,seval]
 have hb0:sY≠b:=by rintro rfl;rw[hT] at hb;cases hb
 have aXK:=a0R l _ [.pptr (.slice (p.map bX)),.pptr (.str key)] (fun i=> !CW p key i) b h9 (st.aC b (.cells (l.map nv))) (aB.aP _ _ _) (fun x hx cs=>aRZ hp key x (hlt x hx) _ (by rw[dC,aB.aL _ _ hb0];exact hT))
 refine(aXK).mono ?_
 rintro _ _ ⟨W,rfl,rfl,hW⟩
 rw[xV] at hW ⊢
 simp -implicitDefEqProofs only[aA,seval]
 have hfl:∀L:List Nat,(L.map nv).flatMap AV.cells=L.map nv:=fun L=>by
  induction L with
  | nil=>rfl
  | cons a L ih=>simp only[bA,rW,ih];rfl
 refine⟨b,W,_,aB.aP _ _ _,b,_,by rw[aB.aP,hW,hfl],fun e he=>?_,⟨1,RF _⟩,by simp [AV.fz],by rw[dC,aB.vO _ _ _ hb]⟩
 simp only[cS] at he
 obtain⟨_,_,rfl⟩:=he
 rfl
def E9(st0 st':aB)(S c m:Nat)(p:List Cl)(q:List Tm)(idx:Bool)(fuel used:Int)(r:AV):wV→Prop
 | .go i'=>r=.int .i64 (-1)∧∃qt qc qn mx nd,dK st0 st' S c m qt qc qn p q idx fuel used mx nd i'
 | .fail i'=>TY st0 st' S c m p q idx fuel used r (gR p i'.chs.length i')
 | .stop e=>r=.int .i64 e∧∃qt qc qn mx nd i',dK st0 st' S c m qt qc qn p q idx fuel used mx nd i'
def NC(p:List Cl)(idx:Bool)(cnd:Tm→List Nat→List Nat):Prop:=cnd=if idx=true then sF p else fun _ l=>l
theorem aZM(yn:Int)(ys:ByteArray)(yts:List Tm)(st:aB):aD prog 122 [(Tm.mk 3 yn ys yts).av] st (fun r st'=>r=.bool (oB (.mk 3 yn ys yts))∧st'=st):=by
 have h:=WE 3 yn ys yts st
 have e:(decide ((3:Int)=3)&&decide ((yts.length:Int)=0)&&decide (ys=⟨#[33]⟩))=oB (.mk 3 yn ys yts):=by
  rw[uQ]
  simp [oB,Tm.k,Tm.s,Tm.ts,and_comm]
  exact fun _=>⟨fun h=>gM h,fun h=>of_decide_eq_true h⟩
 rw[e] at h
 exact h
theorem aZL(yn:Int)(ys:ByteArray)(yts:List Tm)(st:aB):aD prog 121 [(Tm.mk 3 yn ys yts).av] st (fun r st'=>r=.bool (isBuiltin ys (yts.length:Int))∧st'=st):=by
 have h:=OL 3 yn ys yts st
 rw[show(decide ((3:Int)=3)&&isBuiltin ys (yts.length:Int))=isBuiltin ys (yts.length:Int) from rfl] at h
 exact h
abbrev lK:=zi tI_3 (zi zI_3 (zi aX (zi tI_4 (zi zI_4 (zi cE (zi tI_29 (zi zI_29 (zi gW (zi kA (zi kB (zi lL (zi tI_46 (zi zI_46 (zi dH (zi fA (zi eX (zi fB (zi tI_66 (zi zI_66 (zi bQ (zi bR (zi bS (zi bT (zi bP (zi tI_174 (zi zI_174 (zi tI_199 (zi zI_199 (zi PM (zi PN (zi OA (zi tI_227 (zi zI_227 (zi tI_256 (zi zI_256 (zi tI_257 (zi zI_257 (zi zT (zi KA (zi KC (zi TO (zi tI_258 (zi zI_258 (zi CT (zi KB (zi KD (zi TP (zi tI_260 (zi zI_260 (zi F7 (zi F8 (zi GB (zi GC (zi GD (zi GE (zi GF (zi GG (zi GH (zi GI (zi F9 (zi GA (zi FO (zi tI_321 (zi zI_321 (zi aIG (zi aIH (zi aII (zi aIJ (zi VJ (zi tI_324 (zi zI_324 (zi aIK (zi aIL (zi aIM VK))))))))))))))))))))))))))))))))))))))))))))))))))))))))))))))))))))))))))
set_option maxHeartbeats 2000000 in
theorem aT8{p:List Cl}(hp:∀c∈p,gE c∧c.2.length≤6)(hpl:p.length≤20){cnd:Tm→List Nat→List Nat}(hc:∀(ρ:Int→Int) (t:Tm) (l:List Nat),cnd (b7 ρ t) l=cnd t l)(hd:∀t l,(∀i∈cnd t l,i∈l)∧(cnd t l).length≤l.length){idx:Bool}(xV:NC p idx cnd)
 {B M k:Nat} (hB:B+26≤524288) (hM:M+520≤16777216) (hk:k+1≤524288) {st0 st:aB} {S c m:Nat} {qt qc qn:AV} {q:List Tm} {fuel used:Int} {mx:Int} {nd:List AV} {s:RS} {i:IS} {g:IG} {rest:List IG}
 (uG:idx=true→st0 sY=some wG) (h:dK st0 st S c m qt qc qn p q idx fuel used mx nd i) (hR:RI p B M k s i) (hg:i.goals=g::rest) (hu0:0≤used) (hu:used≤1000000) :
 aD prog 243 [.ptr S 0] st (fun r st'=>if used=fuel then r=.int .i64 2∧dK st0 st' S c m qt qc qn p q idx fuel used mx nd i else E9 st0 st' S c m p q idx fuel (used+1) r (lW p cnd i g rest)):=by
 have hp1:=fun c h=>(hp c h).1
 obtain⟨hgd,ho,hcl,_⟩:=hR.r.facts
 obtain⟨hgo,hg3,_⟩:=hR.r.goal hg
 have hct:=hR.cut hg
 have hst:=hR.step hp hpl hc hd hB hg
 have a6W:=hR.pB
 have hnn:=hR.n
 have hX:=hR.x
 obtain⟨rk,D,G⟩:=hgd.rs
 have hfo:=KN hgd ho hgo
 have hyk:(g.t.aG (rs i.σ)).k=3:=by rw[Tm.pM _ (by omega)];exact hg3
 have AG:=XB G (ho.imp fun t ht=>ht.1.2.1) (ho.imp fun t ht=>ht.1.small) c m qt g.t hgo.1.2.1 hgo.1.small
 generalize hT:lW p cnd i g rest=T at *
 unfold lW at hT
 obtain⟨⟨gk,gn,gs',gts⟩,cut,up⟩:=g
 simp only at hgo hg3 hct hfo hyk AG hT
 generalize (Tm.mk gk gn gs' gts).aG (rs i.σ)=y at *
 obtain⟨yk,yn,ys,yts⟩:=y
 obtain rfl:yk=3:=hyk
 simp only[Tm.s,Tm.ts] at hT
 have iG:=h.cell
 rw[hg,sJ] at iG
 simp only[iC] at iG
 obtain⟨t1,t2,t3,t4,t5⟩:=h.sto.shape
 obtain⟨n1,n2,n3,n4,n5⟩:=h.acC.shape
 obtain⟨m1,m2,m3,m4,m5⟩:=h.acN.shape
 obtain⟨l1,l2,l3,l4,l5,l6⟩:=pE rest
 refine aD.mK ?_
 refine wF [1000000] 1 func243 ntmps243 rfl rfl ?_
 intro _
 simp -implicitDefEqProofs only[aA,seval]
 refine wX [(0,1),(1,1),(2,1),(3,1),(4,1),(5,1),(6,1),(7,1),(8,1)] [0,1,2,3,4,5,6,7,8] _ mixed rfl (iF iG) ?_
 simp -implicitDefEqProofs only[wB,aA,seval,lK]
 refine aQ (fun h1=>?_) (fun h1=>?_)
 · have h1':used=fuel:=by simpa using h1
   simp -implicitDefEqProofs only[aA,seval]
   exact⟨st,aM.refl _,by rw[aH h1'];exact h⟩
 have h1':used≠fuel:=by simpa using h1
 have hw:=bO (n:=used+1)
 simp -implicitDefEqProofs only[aK,iG,hw,aB.aP,aA,seval,lK]
 have h2:=h.put (gl:=i.goals) (F:=i.fresh) (fuel':=fuel) (used':=used+1) (mx':=mx) rfl
 rw[hg,sJ] at h2
 simp only[iC] at h2
 generalize aB.aC st S _=V at h2 ⊢
 have rE:=h2.cell
 rw[sJ] at rE
 simp only[iC] at rE
 have hSV:=h2.sto
 have hr:=fun(s2:aB) (hs2:fW V s2)=>AG s2 ⟨hs2 _ _ hSV.sub.cells,hs2 _ _ hSV.sub.map⟩
 unfold LO at hr
 by_cases hf:eL (.mk 3 yn ys yts)=true
 case neg=>
  rw[aE (by unfold eL at hf;simpa using hf)] at hr
  rw[aH (by simpa using hf)] at hT
  subst hT
  simp only[aV,Tm.zero,aW] at hr
  refine wX [(0,1),(1,1),(2,1),(3,1),(4,1),(5,1),(6,1),(7,1),(8,1),(9,1),(10,1),(11,1),(12,0),(13,0),(14,1)] [0,1,2,3,4,5,6,7,8,9,10,11,14] V mixed rfl (fW.refl V) ?_
  simp -implicitDefEqProofs only[rE,aA,seval,lK]
  refine XM hr ?_
  simp -implicitDefEqProofs only[aK,aB.aP,aA,seval,lK]
  exact fun b hb=>⟨KJ hb,KJ hb,V,(aM.refl _).aC hb,by rw[aE h1'];exact⟨rfl,_,_,_,_,_,_,h2⟩⟩
 rw[aH (by unfold eL at hf;simpa using hf)] at hr
 rw[aE (by rw[hf];simp)] at hT
 have hyo:=hfo hf
 simp only[aV] at hr
 have QV:prog.underlying 258=some (.slice 324):=by kernel_rfl
 refine wX [(0,1),(1,1),(2,1),(3,1),(4,1),(5,1),(6,1),(7,1),(8,1),(9,1),(10,1),(11,1),(12,0),(13,0),(14,1)] [0,1,2,3,4,5,6,7,8,9,10,11,14] V mixed rfl (fW.refl V) ?_
 simp -implicitDefEqProofs only[rE,aA,seval,lK]
 refine XM hr ?_
 simp -implicitDefEqProofs only[aK,aB.aP,aA,seval,lK]
 intro b4 h4
 refine⟨KJ h4,KJ h4,?_⟩
 have h40:=h2.aI9 h4
 have aKB:idx=true→(st0.aC b4 (.cells [AV.int IntKind.i64 3,AV.int IntKind.i64 yn,AV.str ys,AV.slice (List.map Tm.av yts)])) sY=some wG:=fun hi=>by
  rw[aB.aL _ _ (by intro e;rw[←e,uG hi] at h40;cases h40)]
  exact uG hi
 have KU:S≠b4:=by rintro rfl;rw[rE] at h4;cases h4
 have h3:=h2.box (o:=.cells [AV.int IntKind.i64 3,AV.int IntKind.i64 yn,AV.str ys,AV.slice (List.map Tm.av yts)]) h4
 have GQ:(st0.aC b4 (.cells [AV.int IntKind.i64 3,AV.int IntKind.i64 yn,AV.str ys,AV.slice (List.map Tm.av yts)])) b4=some (.cells [AV.int IntKind.i64 3,AV.int IntKind.i64 yn,AV.str ys,AV.slice (List.map Tm.av yts)]):=aB.aP _ _ _
 have hun:=fun {st' qt qc qn q idx fuel used mx nd i}=>dK.unbox (st0:=st0) (st:=st') (S:=S) (c:=c) (m:=m) (qt:=qt) (qc:=qc) (qn:=qn) (p:=p) (q:=q) (idx:=idx) (fuel:=fuel) (used:=used) (mx:=mx) (nd:=nd) (i:=i) (b:=b4) (o:=.cells [AV.int IntKind.i64 3,AV.int IntKind.i64 yn,AV.str ys,AV.slice (List.map Tm.av yts)]) (hn:=h40)
 generalize V.aC b4 (.cells [AV.int IntKind.i64 3,AV.int IntKind.i64 yn,AV.str ys,AV.slice (List.map Tm.av yts)])=W at h3 ⊢
 generalize st0.aC b4 (.cells [AV.int IntKind.i64 3,AV.int IntKind.i64 yn,AV.str ys,AV.slice (List.map Tm.av yts)])=W0 at h3 GQ hun aKB
 clear rE hSV hr h2
 have C9:=h3.cell
 rw[sJ] at C9
 simp only[iC] at C9
 have hbW:=h3.a8 b4 _ GQ
 have hlN:=h3.acN.len QV
 rw[h3.ndl] at hlN
 simp only at hlN
 simp -implicitDefEqProofs only[C9,hlN,m1,aA,seval]
 obtain⟨s0,z1,z2,z3⟩:=MX KU _ _
 refine wX [(0,1),(1,1),(2,1),(3,1),(4,1),(5,1),(6,1),(7,1),(8,1),(9,1),(10,1),(11,1),(12,0),(13,1),(14,1),(15,2)] [0,1,2,3,4,5,6,7,8,9,10,11,13,14] s0 mixed rfl (z3 _ C9 hbW) ?_
 simp -implicitDefEqProofs only[z1,z2,m1,aA,seval,lK]
 refine jC.append CT KB KD rfl (by decide) h3.acN rfl rfl (by rw[h3.ndl];simp only;omega) (fun qn5 s5 oE hf hn=>?_)
 have hbo:b4∉jB S c m qt qc qn:=fun hm=>by have:=h3.new b4 hm;rw[GQ] at this;cases this
 have hold:∀y o,W y=some o→y∉dR qn→s5 y=some o:=fun y o hy hq=>by
  rw[hf y hq fun hq'=>by
   rcases hn y hq' with h' | h'
   · exact hq h'
   · rw[hy] at h';cases h']
  exact hy
 have sN:=hold S _ C9 h3.parts.2.2.2.2.2.1
 have hb5:=hold b4 _ hbW fun hm=>hbo (eA.2 (.inr (.inr (.inr (.inr (.inr hm))))))
 obtain⟨m1,m2,m3,m4,m5⟩:=oE.shape
 simp -implicitDefEqProofs only[aK,sN,m4,m5,aA,seval,lK]
 refine⟨z3 _ sN hb5,?_⟩
 have h5:=h3.a1J (n':=i.nn+1) oE (by rw[dM,h3.ndl];try rfl) (fun e he=>by
  rcases fF.1 he with he | he
  · exact h3.ndw e he
  · simp only[cX,dN,dV] at he;subst he;rfl) hf hn rfl
 rw[sJ] at h5
 simp only[iC] at h5
 generalize aB.aC s5 S _=W5 at h5 ⊢
 clear sN hb5 hold hf hn C9 hbW
 have kD:=h5.cell
 rw[sJ] at kD
 simp only[iC] at kD
 have hb6:=h5.a8 b4 _ GQ
 have aJX:=aZM yn ys yts
 have aJS:=aZL yn ys yts
 simp only[aV] at aJX aJS
 simp -implicitDefEqProofs only[hb6,aA,seval]
 refine(aJX _).to ?_
 simp -implicitDefEqProofs only[aA,seval]
 refine aQ (fun hcu=>?_) (fun hcu=>?_)
 · simp only[hcu,gA] at hT
   subst hT
   simp -implicitDefEqProofs only[kD,aA,seval,lK]
   have hsl:=fun(φ:AF) (dd:Nat) (h:φ dd=.int .i64 (cut:Int))=>aML zT h5.acC h (by rw[aF];exact hct)
   have hQ:=(h5.acC.take (k:=cut) (by rw[aF];exact hct) (Q1 _)).shape
   obtain⟨c1,c2,c3,c4,c5⟩:=hQ
   obtain⟨s1,y1,y2,y3⟩:=MX KU _ _
   refine wX [(0,1),(1,1),(2,1),(3,1),(4,1),(5,1),(6,1),(7,1),(8,1),(9,1),(10,1),(11,1),(12,2)] [0,1,2,3,4,5,6,7,8,9,10,11] s1 mixed rfl (y3 _ kD hb6) ?_
   simp -implicitDefEqProofs only[aK,y1,kD,hsl,c4,c5,n1,l1,l2,l4,l5,aB.aP,aA,seval,lK]
   refine⟨_,aM.refl _,?_⟩
   rw[aE h1']
   have h6:=h5.XW (k:=cut) (gl:=rest) hct rfl
   exact⟨rfl,_,_,_,_,_,hun h6⟩
 simp only[hcu,iL,dY] at hT
 simp -implicitDefEqProofs only[hb6,aA,seval,lK]
 refine(aJS _).to ?_
 simp -implicitDefEqProofs only[aA,seval]
 refine aQ (fun hbl=>?_) (fun hbl=>?_)
 · simp only[hbl,gA] at hT
   have hks:∀x∈yts,bB i.fresh x:=qJ _ (.mk 3 yn ys yts) (show(3:Int)≠1 by decide) hyo
   have GT:=aRR hgd ho yn ys yts hbl hks c m qt i.tr W5 h5.sto (by have:=hX.TH;have:=hX.phi;omega)
   simp only[aV] at GT
   replace hT:(if(dE i.σ ys yts).1=0 then wV.go { goals:=rest,σ:=(dE i.σ ys yts).2.1,tr:=i.tr++(dE i.σ ys yts).2.2,chs:=i.chs,fresh:=i.fresh,nn:=i.nn+1 } else if(dE i.σ ys yts).1=1 then wV.fail { goals:=i.goals,σ:=(dE i.σ ys yts).2.1,tr:=i.tr++(dE i.σ ys yts).2.2,chs:=i.chs,fresh:=i.fresh,nn:=i.nn+1 } else wV.stop (oC (dE i.σ ys yts).1))=T:=hT
   generalize DH:dE i.σ ys yts=Z at GT hT
   obtain⟨code,σ',add⟩:=Z
   simp only at hT
   obtain⟨s1,y1,y2,y3⟩:=MX KU _ _
   refine wX [(0,1),(1,1),(2,1),(3,1),(4,1),(5,0),(6,1)] [0,1,2,3,4,6] s1 mixed rfl (y3 _ kD hb6) ?_
   simp -implicitDefEqProofs only[y1,y2,aA,seval,lK]
   refine GT.mono ?_
   rintro _ s6 ⟨rfl,hP⟩
   obtain⟨qt6,h6⟩:=h5.post hP
   have nT:=h6.cell
   rw[sJ] at nT
   simp only[iC] at nT
   have hb7:=h6.a8 b4 _ GQ
   obtain⟨t1,t2,t3,t4,t5⟩:=h6.sto.shape
   simp -implicitDefEqProofs only[aA,seval]
   refine⟨y3 _ nT hb7,?_⟩
   refine aQ (fun hc0=>?_) (fun hc0=>?_)
   · have P6:code=0:=by simpa using hc0
     rw[aH P6] at hT
     subst hT
     simp -implicitDefEqProofs only[aK,nT,l1,l2,l4,l5,aA,seval,lK]
     refine⟨_,aM.refl _,?_⟩
     rw[aE h1']
     exact⟨rfl,_,_,_,_,_,hun (h6.put (gl:=rest) (F:=i.fresh) (fuel':=fuel) (used':=used+1) (mx':=mx) rfl)⟩
   have P6:code≠0:=by simpa using hc0
   rw[aE P6] at hT
   simp -implicitDefEqProofs only[aA,seval]
   refine aQ (fun hc1=>?_) (fun hc1=>?_)
   · have P7:code=1:=by simpa using hc1
     rw[aH P7] at hT
     subst hT
     simp only at hst
     rw[←hg] at h6
     have hbk:=JT hp (M:=M+520) (by omega) _ _ _ _ _ _ ({ goals:=i.goals,σ:=σ',tr:=i.tr++add,chs:=i.chs,fresh:=i.fresh,nn:=i.nn+1 }:IS) s.chs (T:=gR p (({ goals:=i.goals,σ:=σ',tr:=i.tr++add,chs:=i.chs,fresh:=i.fresh,nn:=i.nn+1 }:IS)).chs.length ({ goals:=i.goals,σ:=σ',tr:=i.tr++add,chs:=i.chs,fresh:=i.fresh,nn:=i.nn+1 }:IS)) ⟨h6,hst.1,hst.2.1,rfl,⟨by rw[hst.1.len];have:=hR.a.a.pB;omega,lA hst.2.2.1 (by omega)⟩⟩
     simp -implicitDefEqProofs only[aA,seval]
     refine hbk.mono ?_
     rintro r s7 hr
     simp -implicitDefEqProofs only[aA,seval]
     refine⟨s7,aM.refl _,?_⟩
     rw[aE h1']
     simp only[E9]
     cases hB2:gR p (({ goals:=i.goals,σ:=σ',tr:=i.tr++add,chs:=i.chs,fresh:=i.fresh,nn:=i.nn+1 }:IS)).chs.length ({ goals:=i.goals,σ:=σ',tr:=i.tr++add,chs:=i.chs,fresh:=i.fresh,nn:=i.nn+1 }:IS) with
     | none=>
      rw[hB2] at hr
      obtain⟨e1,qt7,qc7,qn7,mx7,nd7,i7,h7⟩:=hr
      exact⟨e1,_,_,_,_,_,_,hun h7⟩
     | some i7=>
      rw[hB2] at hr
      obtain⟨e1,qt7,qc7,qn7,mx7,nd7,h7⟩:=hr
      exact⟨e1,_,_,_,_,_,hun h7⟩
   have P7:code≠1:=by simpa using hc1
   rw[aE P7] at hT
   subst hT
   simp -implicitDefEqProofs only[aA,seval]
   refine(aRW code _).to ?_
   simp -implicitDefEqProofs only[aA,seval]
   refine⟨_,aM.refl _,?_⟩
   rw[aE h1']
   exact⟨rfl,_,_,_,_,_,_,hun h6⟩
 simp only[hbl,iL,dY] at hT
 have hpr:=W7 3 yn ys yts
 have hcf:=aRT p (.mk 3 yn ys yts) (by omega)
 simp only[aV,Tm.s,Tm.ts] at hpr hcf
 obtain⟨s1,y1,y2,y3⟩:=MX KU _ _
 simp -implicitDefEqProofs only[aA,seval]
 refine wX [(0,1),(1,1),(2,1),(3,1),(4,1),(5,0),(6,0),(7,1)] [0,1,2,3,4,7] s1 mixed rfl (y3 _ kD hb6) ?_
 simp -implicitDefEqProofs only[y1,y2,aA,seval,lK]
 refine(hpr _).to ?_
 simp -implicitDefEqProofs only[aA,seval]
 refine⟨y3 _ kD hb6,?_⟩
 refine(hcf _).to ?_
 simp -implicitDefEqProofs only[aF,aA,seval,lK]
 refine⟨y3 _ kD hb6,?_⟩
 refine aQ (fun hl0=>?_) (fun hl0=>?_)
 · have pH:d8 p (.mk 3 yn ys yts)= []:=by simpa using hl0
   rw[aH pH] at hT
   subst hT
   simp -implicitDefEqProofs only[aA,seval]
   refine⟨_,aM.refl _,?_⟩
   rw[aE h1']
   exact⟨rfl,_,_,_,_,_,_,hun h5⟩
 have pH:d8 p (.mk 3 yn ys yts)≠[]:=by simpa using hl0
 rw[aE pH] at hT
 have hfl:=aWK p (.mk 3 yn ys yts)
 have h5':=h5
 rw[←hg] at h5'
 have DJ:=fun(l:List Nat) (hl:∀i∈l,i<p.length) (h20:l.length≤p.length)=>XJ hp (M:=M+520) (by omega) h5' (.mk 3 yn ys yts) i.nn rest l hgd ho hyo hl (by omega) (by simp only;omega) (hX.up (Nat.le_add_right M 520)).node (by have:=hX.phi;simp only;omega) (by simp only;omega) (by simp only;omega)
 have fD:=fun st hT=>aRY hp hyo (d8 p (.mk 3 yn ys yts)) pH (PT _ _) (by omega) st hT
 have hpW:=fun hi=>h5.a8 sY _ (aKB hi)
 have hds:=hd (.mk 3 yn ys yts) (d8 p (.mk 3 yn ys yts))
 simp only[aV] at DJ fD
 obtain rfl:cnd=if idx=true then sF p else fun _ l=>l:=xV
 cases idx with
 | false=>
  simp only[iL,dY] at hT
  simp -implicitDefEqProofs only[kD,aA,seval,lK]
  have htr:=DJ (d8 p (.mk 3 yn ys yts)) (PT _ _) (hfl)
  refine wX [(0,1),(1,1),(2,1),(3,1),(4,1),(5,1),(6,1),(7,1),(8,2)] [0,1,2,3,4,5,6,7] s1 mixed rfl (y3 _ kD hb6) ?_
  simp -implicitDefEqProofs only[y2,l1,l2,aA,seval,lK]
  refine htr.mono ?_
  rintro _ s6 ⟨rfl,qt6,qc6,mx6,nd6,h6⟩
  simp -implicitDefEqProofs only[aA,seval]
  refine aQ (fun ht0=>?_) (fun ht0=>?_)
  · simp only[ht0,gA] at hT
    subst hT
    simp -implicitDefEqProofs only[aA,seval]
    refine⟨_,aM.refl _,?_⟩
    rw[aE h1']
    exact⟨rfl,_,_,_,_,_,hun h6⟩
  simp only[ht0,iL,dY] at hT
  subst hT
  simp only at hst
  have hbk:=JT hp (M:=M+520) (by omega) _ _ _ _ _ _ (fT p (.mk 3 yn ys yts) i.nn rest (d8 p (.mk 3 yn ys yts)) { i with nn:=i.nn+1 }).2 s.chs (T:=gR p ((fT p (.mk 3 yn ys yts) i.nn rest (d8 p (.mk 3 yn ys yts)) { i with nn:=i.nn+1 }).2).chs.length (fT p (.mk 3 yn ys yts) i.nn rest (d8 p (.mk 3 yn ys yts)) { i with nn:=i.nn+1 }).2) ⟨h6,hst.1,hst.2.1,rfl,⟨by rw[hst.1.len];have:=hR.a.a.pB;omega,lA hst.2.2.1 (by omega)⟩⟩
  simp -implicitDefEqProofs only[aA,seval]
  refine hbk.mono ?_
  rintro r s7 hr
  simp -implicitDefEqProofs only[aA,seval]
  refine⟨s7,aM.refl _,?_⟩
  rw[aE h1']
  simp only[E9]
  cases hB2:gR p ((fT p (.mk 3 yn ys yts) i.nn rest (d8 p (.mk 3 yn ys yts)) { i with nn:=i.nn+1 }).2).chs.length (fT p (.mk 3 yn ys yts) i.nn rest (d8 p (.mk 3 yn ys yts)) { i with nn:=i.nn+1 }).2 with
  | none=>
   rw[hB2] at hr
   obtain⟨e1,qt7,qc7,qn7,mx7,nd7,i7,h7⟩:=hr
   exact⟨e1,_,_,_,_,_,_,hun h7⟩
  | some i7=>
   rw[hB2] at hr
   obtain⟨e1,qt7,qc7,qn7,mx7,nd7,h7⟩:=hr
   exact⟨e1,_,_,_,_,_,hun h7⟩
 | true=>
  simp only[eq_self,gA] at hT hds
  simp -implicitDefEqProofs only[kD,aA,seval,lK]
  refine wX [(0,1),(1,1),(2,1),(3,1),(4,1),(5,1),(6,0),(7,1)] [0,1,2,3,4,5,7] s1 mixed rfl (y3 _ kD hb6) ?_
  simp -implicitDefEqProofs only[y1,y2,aA,seval,lK]
  refine(fD _ (hpW rfl)).to ?_
  simp -implicitDefEqProofs only[aA,seval]
  refine⟨y3 _ kD hb6,?_⟩
  have htr:=DJ (sF p (.mk 3 yn ys yts) (d8 p (.mk 3 yn ys yts))) ((fun x hx=>PT _ _ x (hds.1 x hx))) ((lA hds.2 hfl))
  refine wX [(0,1),(1,1),(2,1),(3,1),(4,1),(5,1),(6,1),(7,1),(8,2)] [0,1,2,3,4,5,6,7] s1 mixed rfl (y3 _ kD hb6) ?_
  simp -implicitDefEqProofs only[y2,l1,l2,aA,seval,lK]
  refine htr.mono ?_
  rintro _ s6 ⟨rfl,qt6,qc6,mx6,nd6,h6⟩
  simp -implicitDefEqProofs only[aA,seval]
  refine aQ (fun ht0=>?_) (fun ht0=>?_)
  · simp only[ht0,gA] at hT
    subst hT
    simp -implicitDefEqProofs only[aA,seval]
    refine⟨_,aM.refl _,?_⟩
    rw[aE h1']
    exact⟨rfl,_,_,_,_,_,hun h6⟩
  simp only[ht0,iL,dY] at hT
  subst hT
  simp only at hst
  have hbk:=JT hp (M:=M+520) (by omega) _ _ _ _ _ _ (fT p (.mk 3 yn ys yts) i.nn rest (sF p (.mk 3 yn ys yts) (d8 p (.mk 3 yn ys yts))) { i with nn:=i.nn+1 }).2 s.chs (T:=gR p ((fT p (.mk 3 yn ys yts) i.nn rest (sF p (.mk 3 yn ys yts) (d8 p (.mk 3 yn ys yts))) { i with nn:=i.nn+1 }).2).chs.length (fT p (.mk 3 yn ys yts) i.nn rest (sF p (.mk 3 yn ys yts) (d8 p (.mk 3 yn ys yts))) { i with nn:=i.nn+1 }).2) ⟨h6,hst.1,hst.2.1,rfl,⟨by rw[hst.1.len];have:=hR.a.a.pB;omega,lA hst.2.2.1 (by omega)⟩⟩
  simp -implicitDefEqProofs only[aA,seval]
  refine hbk.mono ?_
  rintro r s7 hr
  simp -implicitDefEqProofs only[aA,seval]
  refine⟨s7,aM.refl _,?_⟩
  rw[aE h1']
  simp only[E9]
  cases hB2:gR p ((fT p (.mk 3 yn ys yts) i.nn rest (sF p (.mk 3 yn ys yts) (d8 p (.mk 3 yn ys yts))) { i with nn:=i.nn+1 }).2).chs.length (fT p (.mk 3 yn ys yts) i.nn rest (sF p (.mk 3 yn ys yts) (d8 p (.mk 3 yn ys yts))) { i with nn:=i.nn+1 }).2 with
  | none=>
   rw[hB2] at hr
   obtain⟨e1,qt7,qc7,qn7,mx7,nd7,i7,h7⟩:=hr
   exact⟨e1,_,_,_,_,_,_,hun h7⟩
  | some i7=>
   rw[hB2] at hr
   obtain⟨e1,qt7,qc7,qn7,mx7,nd7,h7⟩:=hr
   exact⟨e1,_,_,_,_,_,hun h7⟩

theorem a4C(t:Tm):t.same t=true:=(Tm.HQ t t).2 rfl
abbrev aNL:=zi tI_3 (zi zI_3 (zi aX (zi tI_46 (zi zI_46 (zi dH (zi fA (zi eX (zi fB (zi tI_66 (zi zI_66 (zi bQ (zi bR (zi bS (zi bT bP))))))))))))))
theorem aT2(vars:List Int)(n:Int)(st:aB):aD prog 219 [.int .i64 n,.pptr (.slice (vars.map iv))] st (fun r st'=>r=(vr (d5 n vars 0)).av∧st'=st):=by
 refine aD.done ?_
 refine wF [1000000] 2 func219 ntmps219 rfl rfl ?_
 intro _
 simp -implicitDefEqProofs only[aA,seval,aNL]
 intro b hb
 refine(OJ vars n _).to ?_
 simp -implicitDefEqProofs only[aA,seval]
 refine(OY _ _).to ?_
 simp -implicitDefEqProofs only[aK,cC,bY,eO (bY _),eK (aT _),aA,seval,aNL]
 exact⟨Tm.soft _,(aM.refl _).aC hb⟩
abbrev SX:=zi tI_3 (zi zI_3 (zi aX (zi tI_31 (zi zI_31 (zi aN (zi bG (zi bH (zi b9 (zi tI_46 (zi zI_46 (zi dH (zi fA (zi eX (zi fB (zi tI_66 (zi zI_66 (zi bQ (zi bR (zi bS (zi bT bP))))))))))))))))))))
theorem W9(l:List Tm)(hln:l.length≤1048576)(hsz:bF Tm.nodes l≤1099511627776)(hsm:∀t∈l,t.small=true)(st:aB):aD prog 148 [.slice (l.map Tm.av)] st (fun r st'=>r=.slice ((nW l).map Tm.av)∧st'=st):=by
 refine aD.done ?_
 refine wF [1000000] 1 func148 ntmps148 rfl rfl ?_
 simp only[eC,AV.fits,eF,aF]
 intro ⟨hl,_⟩
 simp -implicitDefEqProofs only[aA,seval]
 refine(FW l _ hsz).to ?_
 simp -implicitDefEqProofs only[aF,aA,↓aU,seval,SX]
 generalize hv:bL l []=vars
 have hR:nW l=l.map fun t=>t.aG fun v=>vr (d5 v vars 0):=by rw[←hv];try rfl
 rw[hR]
 refine rT (σ:=Unit) [1000000] [2,3,9,10] (l) 4 4 (fun i _=>(((l).take i).map (fun t=>t.aG fun v=>vr (d5 v vars 0))).map Tm.av) (fun _ _=>True) (fun i _=>[(11,.int .i64 i)]) (fun _ _=>st) (fun i _ _ e he=>by simp only[cS] at he;obtain⟨t,_,rfl⟩:=he;exact⟨cG t,aJ t⟩) (by decide +kernel) ⟨(),0,trivial,fun h=>absurd rfl h,aO.mk (by simp -implicitDefEqProofs only[jG,kS,aW,aA,↓aU,seval])⟩ (fun i x s b hx hlt bV hdr hinv hb=>?_) (fun s b hge hinv=>?_)
 case refine_1=>
  have hw:=bO (n:=(i:Int)+1)
  have cZ:((((l).take i).map (fun t=>t.aG fun v=>vr (d5 v vars 0))).map Tm.av).length=i:=by simp only[aF,dS];omega
  have htk:((((l).take i).map (fun t=>t.aG fun v=>vr (d5 v vars 0))).map Tm.av)++ [Tm.av ((fun t=>t.aG fun v=>vr (d5 v vars 0)) x)]=(((l).take (i+1)).map (fun t=>t.aG fun v=>vr (d5 v vars 0))).map Tm.av:=by rw[fG,hx];simp
  have hat:=bM (av:=Tm.av) aN hx (aJ x)
  simp -implicitDefEqProofs only[bV,hat,aA,↓aU,seval,SX]
  refine(JY (fun v=>vr (d5 v vars 0)) _ [.pptr (.slice (vars.map iv))] rfl x _ (hsm x (cP hx)) (fun n _ s=>aT2 vars n s)).to ?_
  simp -implicitDefEqProofs only[aA,seval,SX]
  refine eW aN bG bH rfl rfl (fM (aJ _) (cC _)) (by intro e he;simp only[cS] at he;obtain⟨t,_,rfl⟩:=he;exact aJ t) hb (by simp only[cZ,aS,aZ];omega) (by simp only[cZ,aS,aZ];omega) (fun b' hb'=>?_)
  rw[htk] at hb' ⊢
  simp -implicitDefEqProofs only[aA,seval]
  exact⟨(),b',hb',aO.mk (by simp -implicitDefEqProofs only[hw,aA,seval])⟩
 simp -implicitDefEqProofs only[hge,eG,iN,oD,zX,lV,eS,aA,seval]
 exact⟨rfl,aM.refl _⟩
theorem XA(t:Tm)(h:t.valid=true)(st:aB):aD prog 148 [.fslice [t.av]] st (fun r st'=>r=.slice [(rJ t).av]∧st'=st):=by
 have:=W9 [t] (by simp) (by have:=Tm.EP h;simp only[bF];omega) (by intro x hx;simp only[cX,dN,dV] at hx;rw[hx];exact Tm.IP h) st
 exact aD.oS (by simp only[gY,AV.soft];exact this)
abbrev EC:=zi tI_4 (zi zI_4 (zi cE (zi tI_31 (zi zI_31 (zi aN (zi bG (zi bH (zi b9 (zi tI_66 (zi zI_66 (zi bQ (zi bR (zi bS (zi bT bP))))))))))))))
theorem aSA(a b:Tm)(ha:a.valid=true)(hb:b.valid=true)(st:aB):aD prog 62 [a.av,b.av] st (fun r st'=>r=.bool ((rJ a).same (rJ b))∧st'=st):=by
 refine wF [1000000] 2 func62 ntmps62 rfl rfl ?_
 intro _
 simp -implicitDefEqProofs only[cG,aA,seval,EC]
 have hva:=fun s=>FR a s
 have hvb:=fun s=>FR b s
 rw[ha] at hva
 rw[hb] at hvb
 have hat:∀t:Tm,dF prog 31 (.slice [t.av]) (.int .i64 0)=some (.pptr t.av):=fun t=>bM (P:=prog) (av:=Tm.av) (l:=[t]) (i:=0) aN rfl (aJ t)
 refine wX [(0,1),(1,0),(2,1),(3,1),(4,0),(5,1),(6,1),(7,1),(8,1),(12,1),(13,1),(9,0),(10,1),(11,1),(14,0),(15,1),(16,1),(17,0),(18,1),(19,1)] [0,2,3,5,6,7,8,12,13,10,11,15,16,18,19] eH mixed rfl eT ?_
 simp -implicitDefEqProofs only[aT,aJ,aA,seval,EC]
 refine(hva _).to ?_
 simp -implicitDefEqProofs only[aT,aJ,aA,seval,EC]
 refine⟨eT,?_⟩
 refine(hvb _).to ?_
 simp -implicitDefEqProofs only[aT,aJ,cG,aA,seval,EC]
 refine⟨eT,?_⟩
 refine(XA a ha _).to ?_
 simp -implicitDefEqProofs only[hat,aT,aJ,aA,seval,EC]
 refine⟨eT,?_⟩
 refine(XA b hb _).to ?_
 simp -implicitDefEqProofs only[hat,aT,aJ,aA,seval,EC]
 refine⟨eT,?_⟩
 refine(JU _ _ _).to ?_
 simp -implicitDefEqProofs only[aA,seval]
 exact eT
def TR:Option (List Tm)→AV
 | none=>.tup [.slice [],.bool false]
 | some l=>.tup [.slice (l.map Tm.av),.bool true]
theorem aLI:∀ {l:List Tm},(∀t∈l,t.nodes≤120)→bF Tm.nodes l≤120*l.length
 | [],_=>by simp [bF]
 | t::l,h=>by
  have h1:=h t (by simp)
  have h2:=aLI (l:=l) fun x hx=>h x (by simp [hx])
  simp only[bF,aS];omega
abbrev H3:=zi tI_3 (zi zI_3 (zi aX (zi tI_4 (zi zI_4 (zi cE (zi tI_31 (zi zI_31 (zi aN (zi bG (zi bH (zi b9 (zi tI_46 (zi zI_46 (zi dH (zi fA (zi eX (zi fB (zi tI_66 (zi zI_66 (zi bQ (zi bR (zi bS (zi bT (zi bP (zi tI_227 zI_227)))))))))))))))))))))))))
theorem aUB{N:Nat}{σ:Sub}(hg:cO σ)(ho:cW (bB N) σ)(vars:List Int)(hv:∀v∈vars,0≤v∧v<(N:Int))(hl:vars.length≤1000)(c m:Nat)(q:AV)(st:aB)(hS:iX st c m q σ) :
 aD prog 244 [.ptr c 0,.slice (vars.map iv)] st (fun r st'=>r=TR (iA σ vars)∧st'=st):=by
 obtain⟨rk,B,G⟩:=hg.rs
 have AG:=fun(t:Tm) (ht:bB N t) st hS=>XB G (ho.imp fun t ht=>ht.1.2.1) (ho.imp fun t ht=>ht.1.small) c m q t ht.1.2.1 ht.1.small st hS
 refine aD.done ?_
 refine wF [1000000] 2 func244 ntmps244 rfl rfl ?_
 intro _
 simp -implicitDefEqProofs only[aF,aA,seval,H3]
 refine rT (σ:=Unit) [1000000] [0,11,12] vars 4 6 (fun i _=>((vars.take i).map (rs σ)).map Tm.av) (fun i _=>((vars.take i).map (rs σ)).all eL=true) (fun i _=>[(4,.fslice []),(5,.bool false),(13,.int .i64 i)]) (fun _ _=>st) (fun i _ _ e he=>by simp only[cS] at he;obtain⟨t,_,rfl⟩:=he;exact⟨cG _,aJ _⟩) (by decide +kernel) ⟨(),0,rfl,fun h=>absurd rfl h,aO.mk (by simp -implicitDefEqProofs only[jG,kS,aW,aA,↓aU,seval])⟩ (fun i x s b hx hlt bV hdr hinv hb=>?_) (fun s b hge hinv=>?_)
 · have hw:=bO (n:=(i:Int)+1)
   have hxm:=cP hx
   obtain⟨hx0,hx1⟩:=hv x hxm
   have hvr:bB N (vr x):=⟨HD hx0 hx1,by rw[vr,Tm.gI];simp [bF]⟩
   have hat:dF prog 46 (.slice (vars.map iv)) (.int .i64 (i:Int))=some (.pptr (.int .i64 x)):=bM (av:=iv) dH hx rfl
   have cZ:(((vars.take i).map (rs σ)).map Tm.av).length=i:=by simp only[aF,dS];omega
   have dX:((vars.take (i+1)).map (rs σ)).all eL=eL (rs σ x):=by
    rw[fG,hx]
    simp only[BX,tM,bA,aW,BP,hinv,kJ,List.all_nil,yR,eV]
   have hr:=AG (vr x) hvr _ (hS.acc hb)
   rw[qI] at hr
   unfold LO at hr
   simp -implicitDefEqProofs only[bV,hat,aA,seval,H3]
   refine(OY x _).to ?_
   simp -implicitDefEqProofs only[aA,seval]
   by_cases hf:eL (rs σ x)=true
   · rw[aH (by unfold eL at hf;simpa using hf)] at hr
     refine hr.to ?_
     simp -implicitDefEqProofs only[aT,aJ,cC,cG,aA,↓aU,seval,H3]
     refine eW aN bG bH rfl rfl (fM (aJ _) (cC _)) (d6 _) hb (by simp only[cZ,aS,aZ];omega) (by simp only[cZ,aS,aZ];omega) (fun b' hb'=>?_)
     rw[show(((vars.take i).map (rs σ)).map Tm.av)++ [(rs σ x).av]=((vars.take (i+1)).map (rs σ)).map Tm.av by rw[fG,hx];simp] at hb' ⊢
     simp -implicitDefEqProofs only[hw,aA,seval]
     exact⟨(),b',by rw[dX];exact hf,hb',aO.mk (by simp -implicitDefEqProofs only[aA,seval])⟩
   · rw[aE (by unfold eL at hf;simpa using hf)] at hr
     refine hr.to ?_
     simp -implicitDefEqProofs only[aJ,cC,cG,aA,↓aU,seval,H3]
     have qA:iA σ vars=none:=by
      unfold iA
      rw[aE]
      rintro⟨h1,_⟩
      exact hf (dW.1 h1 _ (cS.2 ⟨x,hxm,rfl⟩))
     rw[qA]
     exact⟨rfl,aM.a7 (aM.refl _) hb⟩
 · rw[eS] at hinv
   have hok:∀t∈vars.map (rs σ),bB N t:=fun t ht=>by
    obtain⟨v,hvm,rfl⟩:=cS.1 ht
    have hf:=dW.1 hinv _ ht
    unfold eL at hf
    simp only[cA,bJ] at hf
    exact⟨G.k0 ho.k0 v (hv v hvm).1 (hv v hvm).2,hf.2⟩
   have hsz:bF Tm.nodes (vars.map (rs σ))≤1099511627776:=by
    have:=aLI (l:=vars.map (rs σ)) fun t ht=>(hok t ht).2
    rw[aF] at this
    omega
   simp -implicitDefEqProofs only[hge,eG,pC,iN,oD,GJ,lV,eS,aA,seval]
   refine(FW (vars.map (rs σ)) _ hsz).to ?_
   simp -implicitDefEqProofs only[aF,aF,aA,seval,H3]
   refine aQ (fun h=>?_) (fun h=>?_)
   · simp -implicitDefEqProofs only[aA,seval]
     have h':¬(bL (vars.map (rs σ)) []).length≤26:=by simp at h;omega
     unfold iA
     rw[aE (fun hh=>h' hh.2)]
     exact⟨rfl,aM.refl _⟩
   · simp -implicitDefEqProofs only[aA,seval]
     have h':(bL (vars.map (rs σ)) []).length≤26:=by simp at h;omega
     refine(W9 (vars.map (rs σ)) (by rw[aF];omega) hsz (fun t ht=>(hok t ht).1.small) _).to ?_
     simp -implicitDefEqProofs only[aA,seval]
     unfold iA
     rw[aH ⟨hinv,h'⟩]
     exact⟨rfl,aM.refl _⟩
abbrev aNR:=zi tI_3 (zi zI_3 (zi aX (zi tI_4 (zi zI_4 (zi cE (zi tI_26 (zi zI_26 (zi rA (zi vL (zi vN (zi BH (zi tI_29 (zi zI_29 (zi gW (zi kA (zi kB (zi lL (zi tI_31 (zi zI_31 (zi aN (zi bG (zi bH (zi b9 (zi tI_174 (zi zI_174 (zi tI_256 (zi zI_256 (zi tI_260 (zi zI_260 (zi F7 (zi F8 (zi GB (zi GC (zi GD (zi GE (zi GF (zi GG (zi GH (zi GI (zi F9 (zi GA FO)))))))))))))))))))))))))))))))))))))))))
theorem aTW(p:List Cl)(q:List Tm)(fuel:Int)(idx:Bool)(hq:q.length≤1048576)(st:aB) :
 aD prog 162 [.slice (p.map bX),.slice (q.map Tm.av),.int .i64 fuel,.bool idx] st (fun r st'=>∃S c m,r=.ptr S 0∧dK st st' S c m (.fslice []) (.fslice []) (.fslice []) p q idx fuel 0 0 [] (oG q)):=by
 have AE:=fun st=>OT q 0 (-1) [] hq st
 simp only[g9] at AE
 rw[eM] at AE
 refine wF [1000000,16] 4 func162 ntmps162 rfl rfl ?_
 intro _
 simp -implicitDefEqProofs only[aA,seval]
 refine(aTX st).mono ?_
 rintro _ s1 ⟨c,m,rfl,hS,hQ,hc,hm⟩
 simp -implicitDefEqProofs only[aA,seval,aNR]
 intro S hS0
 have hSc:S≠c:=by rintro rfl;rw[hS.sub.cells] at hS0;cases hS0
 have hSm:S≠m:=by rintro rfl;rw[hS.sub.map] at hS0;cases hS0
 refine(AE _).to ?_
 obtain⟨l1,l2,l3,l4,l5,l6⟩:=pE (q.map (fun t=>(⟨t,0,-1⟩:IG)))
 simp -implicitDefEqProofs only[aK,aB.aP,l4,l5,aA,seval,aNR]
 refine⟨S,c,m,rfl,?_⟩
 have hcm:c≠m:=by rintro rfl;have:=hS.sub.cells;rw[hS.sub.map] at this;cases this
 have aJH:st S=none:=by
  cases hh:st S with
  | none=>rfl
  | some o=>have:=hQ.frame S o hh hSc hSm (by simp [dL]);rw[hS0] at this;cases this
 refine⟨aB.aP _ _ _,hS.aC hSc hSm (by simp [dL]),.inl ⟨rfl,rfl⟩,.inl ⟨rfl,rfl⟩,rfl,by simp,?_,?_,?_⟩
 · simp [jB,dL,dR,hSc,hSm,hcm]
 · intro b hb
   rcases eA.1 hb with rfl | rfl | rfl | hb | hb | hb
   · exact aJH
   · exact hc
   · exact hm
   · simp [dL] at hb
   · simp [dR] at hb
   · simp [dR] at hb
 · intro b o hb
   have e1:b≠S:=by rintro rfl;rw[aJH] at hb;cases hb
   rw[aB.aL _ _ e1]
   exact hQ.frame b o hb (by rintro rfl;rw[hc] at hb;cases hb) (by rintro rfl;rw[hm] at hb;cases hb) (by simp [dL])
theorem aRS(p:List Cl)(q:List Tm)(most fuel:Int)(st:aB) :
 aD prog 153 [.slice (p.map bX),.slice (q.map Tm.av),.int .i64 most,.int .i64 fuel] st (fun r st'=>r=.bool (l7 p&&(kF q&&(decide (0≤most)&&(decide (most≤20)&&(decide (0≤fuel)&&decide (fuel≤300))))))∧st'=st):=by
 have h1:=fun st=>OK p st
 have h2:=fun st=>WD q st
 have h3:=fun n lo hi st=>CL n lo hi st
 refine wF [] 4 func153 ntmps153 rfl rfl ?_
 intro _
 simp -implicitDefEqProofs only[aA,seval]
 refine(h1 _).to ?_
 simp -implicitDefEqProofs only[aA,seval]
 refine cV (fun h=>?_) (fun h=>?_)
 · simp -implicitDefEqProofs only[h,aA,seval]
   refine(h2 _).to ?_
   simp -implicitDefEqProofs only[aA,seval]
   refine cV (fun h5=>?_) (fun h5=>?_)
   · simp -implicitDefEqProofs only[h5,aA,seval]
     refine(h3 _ _ _ _).to ?_
     simp -implicitDefEqProofs only[aA,seval]
     refine cV (fun h6=>?_) (fun h6=>?_)
     · simp -implicitDefEqProofs only[h6,aA,seval]
       refine(h3 _ _ _ _).to ?_
       simp -implicitDefEqProofs only[aA,seval]
       rw[←Bool.and_assoc (decide (0≤most)),h6,eV]
     · simp -implicitDefEqProofs only[h6,aA,seval]
       rw[←Bool.and_assoc (decide (0≤most)),h6]
       try rfl
   · simp -implicitDefEqProofs only[h5,aA,seval]
     rw[gK]
 · simp -implicitDefEqProofs only[h,aA,seval]
   rw[gK]
theorem aT5(st:aB):aD prog 164 [] st (fun r st'=>r=.tup []∧st'=st):=by
 refine wF [1000000] 0 func164 ntmps164 rfl rfl ?_
 intro _
 simp -implicitDefEqProofs only[aA,seval,]
structure NP where
 st:aB
 qt:AV
 qc:AV
 qn:AV
 mx:Int
 nd:List AV
 s:RS
 i:IS
 out:List (List Tm)
 b:Nat
 u:Nat
 B:Nat
 M:Nat
 e:Int
structure aPA (st0:aB) (S c m:Nat) (p:List Cl) (q:List Tm) (idx:Bool) (cnd:Tm→List Nat→List Nat) (vars:List Int) (most fuel:Nat) (T:List (List Tm)×Int) (x:NP):Prop where
 a:dK st0 x.st S c m x.qt x.qc x.qn p q idx fuel x.u x.mx x.nd x.i
 r:RI p x.B x.M x.u x.s x.i
 t:T=(x.out++(jJ p cnd vars (most - x.out.length) (fuel - x.u) x.i).1,(jJ p cnd vars (most - x.out.length) (fuel - x.u) x.i).2)
 u:x.u≤fuel
 B:x.B≤26+26*x.u
 M:x.M≤26+520*x.u
structure UC (st0:aB) (S c m:Nat) (p:List Cl) (q:List Tm) (idx:Bool) (cnd:Tm→List Nat→List Nat) (vars:List Int) (most fuel:Nat) (T:List (List Tm)×Int) (x:NP):Prop where
 d:aM x.st st0
 b:x.out.map cU≠[]→x.st x.b=none
 l:x.out.length≤most
 g:x.e= -1→aPA st0 S c m p q idx cnd vars most fuel T x
 f:x.e≠-1→T=(x.out,x.e)
abbrev MB:=zi tI_3 (zi zI_3 (zi aX (zi tI_4 (zi zI_4 (zi cE (zi tI_26 (zi zI_26 (zi rA (zi vL (zi vN (zi BH (zi tI_31 (zi zI_31 (zi aN (zi bG (zi bH (zi b9 (zi tI_46 (zi zI_46 (zi dH (zi fA (zi eX (zi fB (zi tI_59 (zi zI_59 (zi t8 (zi tW (zi tI_174 (zi zI_174 (zi tI_227 (zi zI_227 (zi tI_256 (zi zI_256 (zi tI_260 (zi zI_260 (zi F7 (zi F8 (zi GB (zi GC (zi GD (zi GE (zi GF (zi GG (zi GH (zi GI (zi F9 (zi GA FO)))))))))))))))))))))))))))))))))))))))))))))))
set_option maxHeartbeats 2000000 in
theorem aT3{p:List Cl}(hp:∀c∈p,gE c∧c.2.length≤6)(hpl:p.length≤20){cnd:Tm→List Nat→List Nat}(hc:∀(ρ:Int→Int) (t:Tm) (l:List Nat),cnd (b7 ρ t) l=cnd t l)(hd:∀t l,(∀i∈cnd t l,i∈l)∧(cnd t l).length≤l.length){idx:Bool}(xV:NC p idx cnd)
 {q:List Tm} (hq:∀t∈q,bB 26 t∧t.k=3) (h6:q.length≤6) {most fuel:Nat} (hm:most≤20) (hf:fuel≤300) {st0 st:aB} {S c m:Nat} (uG:idx=true→st0 sY=some wG) (h:dK st0 st S c m (.fslice []) (.fslice []) (.fslice []) p q idx fuel 0 0 [] (oG q)) :
 aD prog 163 [.ptr S 0,.int .i64 (most:Int),.func 164 []] st (fun r st'=>∃b s,r=.tup [bD 1 b ((jJ p cnd (bL q []) most fuel (oG q)).1.map cU),.int .i64 (jJ p cnd (bL q []) most fuel (oG q)).2]∧st'=a7 s b ((jJ p cnd (bL q []) most fuel (oG q)).1.map cU)∧((jJ p cnd (bL q []) most fuel (oG q)).1.map cU≠[]→s b=none)∧aM s st0):=by
 have hnd:bF Tm.nodes q≤1099511627776:=by
  have:=DS q fun t ht=>(hq t ht).1.2
  omega
 have hva:=fun st=>FW q st hnd
 have hv:∀v∈bL q [],0≤v∧v<26:=fun v hv=>by
  rcases (tC q [] fun t ht=>(hq t ht).1.1.2.1).1 hv with h | ⟨t,ht,h⟩
  · cases h
  · exact(hq t ht).1.1.2.2 v h
 have hvl:(bL q []).length≤1000:=by
  have h1:=yM q []
  have h2:=DS q fun t ht=>(hq t ht).1.2
  simp only[aZ] at h1
  omega
 have K8:=RI.start (p:=p) hq h6
 generalize hT:jJ p cnd (bL q []) most fuel (oG q)=T
 generalize bL q []=vars at *
 have hI0:UC st0 S c m p q idx cnd vars most fuel T ⟨st,.fslice [],.fslice [],.fslice [],0,[],k6 q,oG q,[],0,0,26,26,-1⟩:=
  ⟨h.vK,by simp,jD _,fun _=>⟨h,K8,by rw[←hT];try rfl,jD _,c7 _,c7 _⟩,fun h=>absurd rfl h⟩
 have P8:=h.cell
 simp only[iC] at P8
 obtain⟨l1,l2,l3,l4,l5,l6⟩:=pE (oG q).goals
 refine wF [1000000] 3 func163 ntmps163 rfl rfl ?_
 intro _
 simp -implicitDefEqProofs only[P8,aA,seval,MB]
 refine(hva _).to ?_
 simp -implicitDefEqProofs only[aA,seval]
 clear P8 l1 l2 l3 l4 l5 l6
 have hne:∀l:List IG,d9 prog .neq 256 (eM l) .nilptr=some (.bool (!l.isEmpty)):=fun l=>by
  have h:prog.underlying 256=some (.pointer 321):=by kernel_rfl
  cases l with
  | nil=>rw[eM];simp only[d9,h];rfl
  | cons g l=>obtain⟨⟨k,n,s,ts⟩,cut,up⟩:=g;rw[sJ];simp only[d9,h];rfl
 refine iE (σ:=NP) [1000000] [0,1,2,8] (fun x=>UC st0 S c m p q idx cnd vars most fuel T x)
  (fun x=>[(6,.fslice []),(7,.int .i64 0),(9,bD 1 x.b (x.out.map cU)),(10,.int .i64 x.e)])
  (fun x=>a7 x.st x.b (x.out.map cU))
  (fun x=>(most - x.out.length)+(fuel - x.u)+(if x.e= -1 then 1 else 0)) (by decide +kernel) ⟨_,hI0,aO.mk (by simp -implicitDefEqProofs only[jG,aW,aA,seval])⟩ ?_
 clear hI0 h hT K8
 rintro⟨st,qt,qc,qn,mx,nd,s,i,out,b,u,B,M,e⟩ ⟨hdr,hb,hlen,hgo,iB⟩
 simp only at hdr hb hlen hgo iB
 simp only
 simp -implicitDefEqProofs only[aA,seval]
 refine aQ (fun h=>?_) (fun h=>?_)
 case refine_2=>
  have h':e≠-1:=by simpa using h
  have hTe:=iB h'
  subst hTe
  simp -implicitDefEqProofs only[nL,aA,seval]
  exact⟨b,st,rfl,rfl,hb,hdr⟩
 obtain rfl:e= -1:=by simpa using h
 obtain⟨ha,hR,ht,hu,hBB,hMM⟩:=hgo rfl
 simp only at ha hR ht hu hBB hMM
 have hb0:out.map cU≠[]→st0 b=none:=fun h=>(hdr b).1 (hb h)
 have hA:=ha.acc hb
 have aYO:idx=true→a7 st0 b (out.map cU) sY=some wG:=fun hi=>by
  by_cases hl:out.map cU= []
  · rw[hl];exact uG hi
  · rw[oY (by rintro rfl;have:=hb0 hl;rw[uG hi] at this;cases this)];exact uG hi
 have hlo:(out.map cU).length=out.length:=aF _
 have hun:prog.underlying 26=some (.slice 59):=by kernel_rfl
 have uF:=tS (w:=1) (b:=b) (l:=out.map cU) hun
 rw[hlo] at uF
 have K9:∀l:List (List Tm),∀e∈l.map cU,e.width=1:=fun l e he=>by simp only[cS] at he;obtain⟨t,_,rfl⟩:=he;rfl
 have iG:=hA.cell
 simp only[iC] at iG
 obtain⟨l1,l2,l3,l4,l5,l6⟩:=pE i.goals
 have vX:=hne i.goals
 simp -implicitDefEqProofs only[aA,seval]
 refine(aT5 _).to ?_
 simp -implicitDefEqProofs only[iG,l1,vX,aA,seval,MB]
 cases hg:i.goals with
 | cons g rest=>
  rw[hg] at vX
  simp only[List.isEmpty_cons,lN] at vX
  refine aQ (fun h2=>?_) (fun h2=>absurd h2 (by first | rw[hg];simp | simp))
  simp -implicitDefEqProofs only[aA,seval]
  rw[aY7 hg] at ht
  have iS:=aT8 hp hpl hc hd xV (B:=B) (M:=M) (k:=u) (by omega) (by omega) (by omega) aYO hA hR hg (by omega) (by omega)
  have hRs:=hR.step hp hpl hc hd (by omega) hg
  have hse:=aZB (p:=p) (cnd:=cnd) (i:=i) (g:=g) (rest:=rest)
  refine iS.mono ?_
  clear iS
  rintro r s2 hr
  split at hr
  · rename_i hfu
    obtain⟨rfl,hA2⟩:=hr
    obtain⟨s3,rfl,hb3,hA3⟩:=hA2.BI hb0
    rw[aH (by omega)] at ht
    simp -implicitDefEqProofs only[aA,seval]
    exact⟨⟨s3,qt,qc,qn,mx,nd,s,i,out,b,u,B,M,2⟩,by simp,⟨hA3.vK,hb3,hlen,fun h=>absurd h (by simp),fun _=>by rw[ht];simp⟩,aO.mk (by simp -implicitDefEqProofs only[aA,seval])⟩
  · rename_i hfu
    have a60:u<fuel:=by omega
    rw[aE (by omega)] at ht
    cases hS:lW p cnd i g rest with
    | stop e=>
     rw[hS] at hr ht hse
     simp only[UD] at hse
     simp only at ht
     obtain⟨rfl,qt2,qc2,qn2,mx2,nd2,i2,hA2⟩:=hr
     obtain⟨s3,rfl,hb3,hA3⟩:=hA2.BI hb0
     simp -implicitDefEqProofs only[aA,seval]
     exact⟨⟨s3,qt,qc,qn,mx,nd,s,i,out,b,u,B,M,e⟩,by simp [hse],⟨hA3.vK,hb3,hlen,fun h=>absurd h hse,fun _=>by rw[ht];simp⟩,aO.mk (by simp -implicitDefEqProofs only[aA,seval])⟩
    | go i'=>
     rw[hS] at hr ht hRs
     simp only at ht hRs
     obtain⟨s',hR'⟩:=hRs
     obtain⟨rfl,qt2,qc2,qn2,mx2,nd2,hA2⟩:=hr
     obtain⟨s3,rfl,hb3,hA3⟩:=hA2.BI hb0
     simp -implicitDefEqProofs only[aA,seval]
     exact⟨⟨s3,qt2,qc2,qn2,mx2,nd2,s',i',out,b,u+1,B+26,M+520,-1⟩,by simp;omega,⟨hA3.vK,hb3,hlen,fun _=>⟨hA3,hR',by rw[ht,Nat.sub_sub],by simp only;omega,by simp only;omega,by simp only;omega⟩,fun h=>absurd rfl h⟩,aO.mk (by simp -implicitDefEqProofs only[aA,seval])⟩
    | fail i'=>
     rw[hS] at hr ht hRs
     simp only[E9] at ht hRs hr
     obtain⟨_,_,_,hRb⟩:=hRs
     cases hbk:gR p i'.chs.length i' with
     | none=>
      rw[hbk] at hr ht
      simp only at ht
      obtain⟨rfl,qt2,qc2,qn2,mx2,nd2,i2,hA2⟩:=hr
      obtain⟨s3,rfl,hb3,hA3⟩:=hA2.BI hb0
      simp -implicitDefEqProofs only[aA,seval]
      exact⟨⟨s3,qt,qc,qn,mx,nd,s,i,out,b,u,B,M,0⟩,by simp,⟨hA3.vK,hb3,hlen,fun h=>absurd h (by simp),fun _=>by rw[ht];simp⟩,aO.mk (by simp -implicitDefEqProofs only[aA,seval])⟩
     | some i2=>
      rw[hbk] at hr ht
      simp only at ht
      obtain⟨s',hR'⟩:=hRb i2 hbk
      obtain⟨rfl,qt2,qc2,qn2,mx2,nd2,hA2⟩:=hr
      obtain⟨s3,rfl,hb3,hA3⟩:=hA2.BI hb0
      simp -implicitDefEqProofs only[aA,seval]
      exact⟨⟨s3,qt2,qc2,qn2,mx2,nd2,s',i2,out,b,u+1,B+26,M+520,-1⟩,by simp;omega,⟨hA3.vK,hb3,hlen,fun _=>⟨hA3,hR',by rw[ht,Nat.sub_sub],by simp only;omega,by simp only;omega,by simp only;omega⟩,fun h=>absurd rfl h⟩,aO.mk (by simp -implicitDefEqProofs only[aA,seval])⟩
 | nil=>
  rw[hg] at vX
  simp only[List.isEmpty_nil,kI] at vX
  refine aQ (fun h2=>absurd h2 (by first | rw[hg];simp | simp)) (fun h2=>?_)
  simp -implicitDefEqProofs only[uF,aA,seval]
  rw[aY8 hg] at ht
  refine aQ (fun h2=>?_) (fun h2=>?_)
  · have h':out.length=most:=by simp at h2;omega
    rw[aH (by omega)] at ht
    simp -implicitDefEqProofs only[nL,aA,seval]
    have hTe:T=(out,1):=by rw[ht];simp
    subst hTe
    exact⟨b,st,rfl,rfl,hb,hdr⟩
  have h':out.length<most:=by simp at h2;omega
  rw[aE (by omega)] at ht
  simp -implicitDefEqProofs only[iG,hg,aA,seval,MB]
  obtain⟨hgd,ho,_,_⟩:=hR.r.facts
  have hfr:26≤i.fresh:=by
   obtain⟨ρ,S',_⟩:=hR.r
   have h1:=S'.rng 25 (by omega) (by have:=S'.h26;omega)
   rw[S'.idn 25 (by omega) (by omega)] at h1
   omega
  refine(aUB (N:=i.fresh) hgd ho vars (fun v h=>⟨(hv v h).1,by have:=(hv v h).2;omega⟩) hvl c m qt _ hA.sto.sub).to ?_
  cases qA:iA i.σ vars with
  | none=>
   rw[qA] at ht
   simp only[TR]
   simp only at ht
   simp -implicitDefEqProofs only[nL,aA,seval]
   have hTe:T=(out,3):=by rw[ht];simp
   subst hTe
   exact⟨b,st,rfl,rfl,hb,hdr⟩
  | some a=>
   rw[qA] at ht
   simp only[TR]
   simp only at ht
   simp -implicitDefEqProofs only[aA,seval,MB]
   refine eW (P:=prog) (b:=b) (l:=out.map cU) (xs:=[cU a]) rA vL vN rfl rfl (fM rfl rfl) (K9 out) hb (by simp only[aS,aZ,hlo];omega) (by simp only[aS,aZ,hlo];omega) (fun b' hb'=>?_)
   rw[show(out.map cU)++ [cU a]=(out++ [a]).map cU by simp] at hb' ⊢
   have hA':=ha.acc hb'
   have aJP:(out++ [a]).map cU≠[]→st0 b'=none:=fun h=>(hdr b').1 (hb' h)
   have aXB:=hA'.cell
   simp only[iC] at aXB
   simp -implicitDefEqProofs only[aA,seval]
   have hbk:=JT hp (M:=M) (by omega) _ qt qc qn mx nd i s.chs (st0:=a7 st0 b' ((out++ [a]).map cU)) (S:=S) (c:=c) (m:=m) (q:=q) (idx:=idx) (fuel:=fuel) (used:=u) (T:=gR p i.chs.length i) ⟨hA',hR.cr,hR.x,rfl,by have:=hR.pB;have:=hR.n;constructor<;>omega⟩
   refine hbk.mono ?_
   rintro r s2 hr
   have hln:(out++ [a]).length=out.length+1:=by simp
   cases hbk:gR p i.chs.length i with
   | none=>
    rw[hbk] at hr ht
    simp only at ht
    obtain⟨rfl,qt2,qc2,qn2,mx2,nd2,i2,hA2⟩:=hr
    obtain⟨s3,rfl,hb3,hA3⟩:=hA2.BI aJP
    simp -implicitDefEqProofs only[aA,seval]
    exact⟨⟨s3,qt,qc,qn,mx,nd,s,i,out++ [a],b',u,B,M,0⟩,by simp only[hln];simp;omega,⟨hA3.vK,hb3,by simp only[hln];omega,fun h=>absurd h (by simp),fun _=>by rw[ht]⟩,aO.mk (by simp -implicitDefEqProofs only[aA,seval])⟩
   | some i2=>
    rw[hbk] at hr ht
    simp only at ht
    obtain⟨s',hR'⟩:=hR.back hp (by omega) hbk
    obtain⟨rfl,qt2,qc2,qn2,mx2,nd2,hA2⟩:=hr
    obtain⟨s3,rfl,hb3,hA3⟩:=hA2.BI aJP
    simp -implicitDefEqProofs only[aA,seval]
    exact⟨⟨s3,qt2,qc2,qn2,mx2,nd2,s',i2,out++ [a],b',u,B,M,-1⟩,by simp [hln];omega,⟨hA3.vK,hb3,by simp only[hln];omega,fun _=>⟨hA3,hR',by rw[ht];simp only[hln,nJ,fL,eR,Nat.sub_sub],hu,hBB,hMM⟩,fun h=>absurd rfl h⟩,aO.mk (by simp -implicitDefEqProofs only[aA,seval])⟩
theorem uU.a0U{st st':aB}{a o:AV}{k:IntKind}{n:Int}(h:Made st a o st'):uU st [a,.int k n] (.tup [o,.int k n]) st':=by
 obtain⟨bs,h1,h2,h3,h4⟩:=h
 exact⟨_,bs,rfl,h1,h2,aLL.2 ⟨o,.int k n,bs,[],rfl,by simp,h3,⟨rfl,rfl⟩⟩,h4⟩
def T9(st:aB)(L:List AV)(e:Int)(r:AV)(st':aB):Prop:=∃o,r=.tup [o,.int .i64 e]∧Made st (.slice L) o st'∧(L= []→o=.fslice [])
structure tK (st:aB) (L:List AV) (b i:Nat) (os:List AV) (bs:List Nat) (s:aB):Prop where
 len:os.length=i
 own:cL s (L.take i) os bs
 nd:bs.Nodup
 new:∀q∈bs,st q=none
 bn:L≠[]→b∉bs
 cell:L≠[]→s b=some (.cells (os.flatMap AV.cells++(L.drop i).flatMap AV.cells))
 a8:∀q,q∉bs→(L≠[]→q≠b)→s q=st q
theorem tK.start{st:aB}{L:List AV}{b:Nat}:tK st L b 0 [] [] (a7 st b L):=by
 refine⟨rfl,by simp [cL],oW,by simp,by simp,fun h=>?_,fun q _ h=>?_⟩
 · rw[jP h,aB.aP];try rfl
 · cases L with
   | nil=>rfl
   | cons x l=>exact oY (h (by simp))
theorem tK.done{st s:aB}{L os:List AV}{b w:Nat}{bs:List Nat}(h:tK st L b L.length os bs s)(hb:L≠[]→st b=none)(hw:∀e∈L,e.width=w):Made st (.slice L) (bD w b L) s:=by
 obtain⟨h1,h2,h3,h4,h5,h6,h7⟩:=h
 rw[eS] at h2
 by_cases hL:L= []
 · subst hL
   simp only[cL] at h2
   obtain⟨rfl,rfl⟩:=h2
   exact⟨[],oW,by simp,.inl ⟨rfl,rfl,rfl⟩,fun q hq=>h7 q hq (fun h=>absurd rfl h)⟩
 · refine⟨b::bs,List.nodup_cons.2 ⟨h5 hL,h3⟩,fun q hq=>?_,?_,fun q hq=>?_⟩
   · rcases cX.1 hq with rfl | hq
     · exact hb hL
     · exact h4 q hq
   · rw[o0 hL]
     refine .inr ⟨b,bs,os,w,rfl,rfl,?_,h2,hw⟩
     have:=h6 hL
     rw[kK] at this
     simpa using this
   · simp only[cX,not_or] at hq
     exact h7 q hq.2 fun _=>hq.1
theorem tK.step{st s s2:aB}{L os B:List AV}{b i:Nat}{bs bx:List Nat}{e r:AV}(h:tK st L b i os bs s)(he:L[i]?=some (.agg [e]))(hB:(L.drop (i+1)).flatMap AV.cells=B)(m1:bx.Nodup)(m2:∀q∈bx,s q=none)(m3:cK s2 e r bx)(m4:∀q,q∉bx→s2 q=s q) :
 tK st L b (i+1) (os++ [.agg [r]]) (bs++bx) (s2.aC b (.cells (os.flatMap AV.cells++ [r]++B))):=by
 obtain⟨h1,h2,h3,h4,h5,h6,h7⟩:=h
 have hi:i<L.length:=(gP.1 he).1
 have hL:L≠[]:=by rintro rfl;simp at hi
 have DH:=cL.iT _ _ _ h2
 have xY:∀q∈bs,s q≠none:=fun q hq=>by obtain⟨cs,e1,_⟩:=DH.2 q hq;rw[e1];simp
 have hsb:=h6 hL
 have hbx:b∉bx:=fun hq=>by have:=m2 b hq;rw[hsb] at this;cases this
 have DC:∀q∈bs,q∉bx:=fun q hq hq'=>xY q hq (m2 q hq')
 have hbs:∀q∈bs,(s2.aC b (.cells (os.flatMap AV.cells++ [r]++B))) q=s q:=fun q hq=>by
  rw[aB.aL _ _ (by rintro rfl;exact h5 hL hq),m4 q (DC q hq)]
 refine⟨by simp [h1],?_,tO.2 ⟨h3,m1,fun a ha c hc e=>DC a ha (e▸hc)⟩,fun q hq=>?_,fun _ hq=>?_,fun _=>?_,fun q hq hne=>?_⟩
 · rw[fG,he,BX]
   refine h2.snoc hbs ?_
   refine a04.2 ⟨r,rfl,cK.a8 _ _ _ (fun x hx=>?_) m3⟩
   exact aB.aL _ _ (by rintro rfl;exact hbx hx)
 · rcases fF.1 hq with hq | hq
   · exact h4 q hq
   · have h8:q∉bs:=fun h=>DC q h hq
     have h9:q≠b:=by rintro rfl;exact hbx hq
     rw[←h7 q h8 fun _=>h9]
     exact m2 q hq
 · rcases fF.1 hq with hq | hq
   · exact h5 hL hq
   · exact hbx hq
 · rw[aB.aP,hB]
   simp [AV.cells]
 · simp only[fF,not_or] at hq
   rw[aB.aL _ _ (hne hL),m4 q hq.2,h7 q hq.1 hne]
abbrev aNS:=zi tI_3 (zi zI_3 (zi aX (zi tI_4 (zi zI_4 (zi cE (zi tI_26 (zi zI_26 (zi rA (zi vL (zi vN (zi BH (zi tI_29 (zi zI_29 (zi gW (zi kA (zi kB (zi lL (zi tI_31 (zi zI_31 (zi aN (zi bG (zi bH (zi b9 (zi tI_59 (zi zI_59 (zi t8 (zi tW (zi tI_174 zI_174))))))))))))))))))))))))))))
set_option maxHeartbeats 2000000 in
theorem aSB(p:List Cl){cnd:Tm→List Nat→List Nat}(hc:∀(ρ:Int→Int) (t:Tm) (l:List Nat),cnd (b7 ρ t) l=cnd t l)(hd:∀t l,(∀i∈cnd t l,i∈l)∧(cnd t l).length≤l.length){idx:Bool}(xV:NC p idx cnd)
 (q:List Tm) (most fuel:Int) (st:aB) (uG:idx=true→st sY=some wG) :
 aD prog 75 [.slice (p.map bX),.slice (q.map Tm.av),.int .i64 most,.int .i64 fuel,.bool idx] st (T9 st ((iK p cnd q most fuel).1.map cU) (iK p cnd q most fuel).2):=by
 have aJT:=aRS p q most fuel
 have GO:=aMQ p hd q most fuel
 refine wF [1000000] 5 func75 ntmps75 rfl rfl ?_
 intro _
 simp -implicitDefEqProofs only[aA,seval]
 refine(aJT _).to ?_
 simp -implicitDefEqProofs only[aA,seval]
 refine aQ (fun h=>?_) (fun h=>?_)
 · have hS:iK p cnd q most fuel=([],9):=by
    unfold iK
    rw[aE (by rw[show jM p q most fuel=false from by unfold jM;simpa only[kQ] using h];simp)]
   rw[hS]
   simp -implicitDefEqProofs only[aA,seval]
   exact⟨_,rfl,⟨[],oW,by simp,.inl ⟨rfl,rfl,rfl⟩,fun _ _=>rfl⟩,fun _=>rfl⟩
 have hok:jM p q most fuel=true:=by unfold jM;simpa using h
 have hk:=hok
 simp only[jM,cA,bJ] at hk
 obtain⟨kp,kq,k1,k2,k3,k4⟩:=hk
 obtain⟨p1,p2⟩:=HH kp
 obtain⟨q1,q2⟩:=HJ kq
 have hTT:iK p cnd q most fuel=jJ p cnd (bL q []) most.toNat fuel.toNat (oG q):=by
  unfold iK
  rw[aH hok,a24 (fun c h=>(p2 c h).1) hc q2]
 rw[hTT] at GO ⊢
 clear hTT aJT hok h
 obtain⟨mo,rfl⟩:=tL k1
 obtain⟨fu,rfl⟩:=tL k3
 rw[kR,kR] at GO ⊢
 simp -implicitDefEqProofs only[aA,seval]
 refine(aTW p q (fu:Int) idx (by omega) st).mono ?_
 rintro _ s1 ⟨S,c,m,rfl,hA⟩
 simp -implicitDefEqProofs only[aA,seval]
 refine(aT3 p2 p1 hc hd xV q2 q1 (most:=mo) (fuel:=fu) (by omega) (by omega) uG hA).mono ?_
 generalize jJ p cnd (bL q []) mo fu (oG q)=T at GO ⊢
 rintro _ _ ⟨b,s2,rfl,rfl,hb,hD⟩
 obtain⟨L,e⟩:=T
 simp only at GO hb ⊢
 have hb':L.map cU≠[]→st b=none:=fun h=>(hD b).1 (hb h)
 have hun:prog.underlying 26=some (.slice 59):=by kernel_rfl
 have uF:=tS (w:=1) (b:=b) (l:=L.map cU) hun
 rw[aF] at uF
 have hwd:∀e∈L.map cU,e.width=1:=fun e he=>by simp only[cS] at he;obtain⟨t,_,rfl⟩:=he;rfl
 simp -implicitDefEqProofs only[uF,aA,seval]
 refine eP (σ:=List AV×List Nat×aB) [1000000] [10,11,12,13,32,33] L (fun j x=>tK st (L.map cU) b j x.1 x.2.1 x.2.2) (fun j x=>[(34,.int .i64 j)]) (fun j x=>x.2.2) (by decide +kernel) ⟨([],[],a7 st b (L.map cU)),tK.start,aO.drop (PF hD) (by simp -implicitDefEqProofs only[aA,↓aU,seval])⟩ (fun j a x hx hlt bV hdr hinv=>?_) (fun x hge hinv=>?_)
 case refine_2=>
  simp -implicitDefEqProofs only[hge,nL,aA,seval]
  have aXZ:tK st (L.map cU) b (L.map cU).length x.1 x.2.1 x.2.2:=by rw[aF];exact hinv
  exact⟨_,rfl,aXZ.done hb' hwd,fun h=>by rw[h];try rfl⟩
 obtain⟨os,bs,s⟩:=x
 simp only at hinv
 have hw:=bO (n:=(j:Int)+1)
 have hne:L.map cU≠[]:=by intro h;have:=gV List.length h;simp at this;subst this;simp at hlt
 have xX:(L.map cU)[j]?=some (.agg [.slice (a.map Tm.av)]):=by rw[mW,hx];try rfl
 have hc2:=hinv.cell hne
 have aXM:((L.map cU).drop j).flatMap AV.cells= [.slice (a.map Tm.av)]++((L.map cU).drop (j+1)).flatMap AV.cells:=by
  rw[←EZ,hdr,bA,rW,EZ];try rfl
 rw[aXM,←nJ] at hc2
 have hA2:(os.flatMap AV.cells).length=j*1:=by
  rw[hinv.own.aI3 (fun q hq=>hwd q (mC hq)),dS,aF,lP (by omega)]
 obtain⟨e1,e2,e3,e4,e5,e6⟩:=Q9 (B:=((L.map cU).drop (j+1)).flatMap AV.cells) hA2
 have hat:=uC (P:=prog) (b:=b) (w:=1) (i:=j) rA (len:=(L.map cU).length) (by rw[aF];omega)
 have htk:List.take 1 (List.drop (j*1) (os.flatMap AV.cells++ [.slice (a.map Tm.av)]++((L.map cU).drop (j+1)).flatMap AV.cells))= [.slice (a.map Tm.av)]:=by
  rw[nJ,List.drop_append,List.drop_of_length_le (by omega),hA2]
  simp
 obtain⟨hal,hav⟩:=GO.2 a (cP hx)
 rw[o0 hne] at uF ⊢
 rw[aF] at hat uF ⊢
 simp -implicitDefEqProofs only[bV,hat,hc2,htk,e5,aA,↓aU,seval,aNS]
 refine(RJ a _ (by omega) fun x hx s=>RH x s (Tm.IP (dW.1 hav x hx))).mono ?_
 rintro r s3 ⟨bx,m1,m2,m3,m4⟩
 have hbx:b∉bx:=fun h=>by have:=m2 b h;rw[hc2] at this;cases this
 have f1:=(m4 b hbx).trans hc2
 obtain⟨hqc,hqs,hqa,hqw,hqj⟩:=cK.aLJ m3
 simp -implicitDefEqProofs only[hat,f1,hqc,hqs,e4,e5,BU,List.set_cons_zero,aA,seval,aNS]
 exact⟨(os++ [.agg [r]],bs++bx,s3.aC b (.cells (os.flatMap AV.cells++ [r]++((L.map cU).drop (j+1)).flatMap AV.cells))),hinv.step xX rfl m1 m2 m3 m4,aO.mk (by simp -implicitDefEqProofs only[hw,aA,seval])⟩
theorem aR9(p:List Cl)(q:List Tm)(most fuel:Int)(st:aB) :
 aD prog 29 [.slice (p.map bX),.slice (q.map Tm.av),.int .i64 most,.int .i64 fuel] st (T9 st ((iK p (fun _ l=>l) q most fuel).1.map cU) (iK p (fun _ l=>l) q most fuel).2):=by
 refine wF [1000000] 4 func29 ntmps29 rfl rfl ?_
 intro _
 simp -implicitDefEqProofs only[aA,seval]
 refine(aSB p (cnd:=fun _ l=>l) (fun _ _ _=>rfl) (fun _ l=>⟨fun _ h=>h,c7 _⟩) (idx:=false) rfl q most fuel st (fun h=>by cases h)).mono ?_
 intro r s1 h
 obtain⟨o,rfl,hM,hN⟩:=h
 obtain⟨hqc,hqs,hqa,hqw,hqj⟩:=cK.aLJ hM.choose_spec.2.2.1
 simp -implicitDefEqProofs only[hqj,aA,seval]
 exact⟨_,rfl,hM,hN⟩
theorem aR8(p:List Cl)(q:List Tm)(most fuel:Int)(st:aB) :
 aD prog 29 [.slice (p.map bX),.slice (q.map Tm.av),.int .i64 most,.int .i64 fuel] st (uU st [.slice ((iK p (fun _ l=>l) q most fuel).1.map cU),.int .i64 (iK p (fun _ l=>l) q most fuel).2]):=
 (aR9 p q most fuel st).mono fun _ _ ⟨o,h1,h2,_⟩=>by subst h1;exact uU.a0U h2




theorem a29(q fN:List Tm)(st:aB):aD prog 52 [.slice (q.map Tm.av),cU fN] st (uU st [.slice (((nM q fN).getD []).map Tm.av),.bool (nM q fN).isSome]):=by
 refine(aR2 q fN st).mono ?_
 rintro _ _ ⟨o,rfl,h⟩
 exact uU.a0T h
end Go.AW
namespace Go.AW
mutual
def AV.deep:AV→AV
 | .fslice es=>.slice (jH es)
 | .slice es=>.slice (jH es)
 | .agg cs=>.agg (jH cs)
 | a=>a
def jH:List AV→List AV
 | []=>[]
 | a::us=>a.deep::jH us
end
theorem CQ:∀us:List AV,(jH us).length=us.length
 | []=>rfl
 | a::us=>by simp [jH,CQ us]
theorem X3(a:AV):a.deep.width=a.width:=by cases a<;>simp [AV.deep,AV.width,CQ]
theorem X1:∀ {us:List AV} {e:AV},e∈jH us→∃x∈us,e=x.deep
 | [],e,h=>by simp [jH] at h
 | a::us,e,h=>by
  simp only[jH,cX] at h
  rcases h with rfl | h
  · exact⟨a,by simp,rfl⟩
  · obtain⟨x,hx,rfl⟩:=X1 h
    exact⟨x,by simp [hx],rfl⟩
theorem X2{us:List AV}(h:gZ us):gZ (jH us):=by
 obtain⟨k,hk⟩:=h
 refine⟨k,fun e he=>?_⟩
 obtain⟨x,hx,rfl⟩:=X1 he
 rw[X3];exact hk x hx
section
variable {h:bK} {st:aB}
mutual
theorem VC.deep:∀(a:AV) (cs:List Value),VC h st a cs→VC h st a.deep cs
 | .fslice es,cs,x=>by
  simp only[AV.deep]
  unfold VC at x ⊢
  rcases x with ⟨x,rfl⟩ | ⟨b,off,e,l,r1,r2,r3,r4⟩
  · exact .inl ⟨x,rfl⟩
  · exact .inr ⟨b,off,es.length,by rw[CQ];exact e,by rw[CQ];exact c7 _,l,r1,r2,X2 r3,c9.deep es b off r4⟩
 | .slice es,cs,x=>by
  simp only[AV.deep]
  unfold VC at x ⊢
  rcases x with ⟨x,rfl⟩ | ⟨b,off,cap,e,l1,l2,r1,r2,r3,r4⟩
  · exact .inl ⟨x,rfl⟩
  · exact .inr ⟨b,off,cap,by rw[CQ];exact e,by rw[CQ];exact l1,l2,r1,r2,X2 r3,c9.deep es b off r4⟩
 | .agg us,cs,x=>by simp only[VC,AV.deep] at x ⊢;exact aY.deep us cs x
 | .tup _,cs,x=>x
 | .mslice _ _ _ _,cs,x=>x
 | .junk,cs,x=>x
 | .undef,cs,x=>x
 | .int _ _,cs,x=>x
 | .bool _,cs,x=>x
 | .str _,cs,x=>x
 | .nilptr,cs,x=>x
 | .ptr _ _,cs,x=>x
 | .pptr _,cs,x=>x
 | .nilmap,cs,x=>x
 | .map _,cs,x=>x
 | .func _ _,cs,x=>x
 | .raw _,cs,x=>x
 | .eslice,cs,x=>x
theorem aY.deep:∀(us:List AV) (cs:List Value),aY h st us cs→aY h st (jH us) cs
 | [],_,x=>x
 | a::us,cs,x=>by
  simp only[aY,jH] at x ⊢
  obtain⟨c,r,e,x1,x2⟩:=x
  exact⟨c,r,e,VC.deep a [c] x1,aY.deep us r x2⟩
theorem c9.deep:∀(us:List AV) (b off:Nat),c9 h st b off us→c9 h st b off (jH us)
 | [],_,_,x=>x
 | a::us,b,off,x=>by
  simp only[c9,jH,X3] at x ⊢
  obtain⟨⟨cs,x1,x2,x3⟩,x4⟩:=x
  exact⟨⟨cs,x1,x2,VC.deep a cs x3⟩,c9.deep us b _ x4⟩
end
theorem aR.deep{a:AV}{v:Value}(x:aR h st a v):aR h st a.deep v:=by
 cases a
 case fslice=>exact⟨x.1,VC.deep _ _ x.2⟩
 case slice=>exact⟨x.1,VC.deep _ _ x.2⟩
 case agg=>exact⟨x.1,VC.deep _ _ x.2⟩
 all_goals exact x
end
theorem aD.O7{P:Program}{g:FuncId}{args:List AV}{st:aB}{Q:AV→aB→Prop}(x:aD P g (jH args) st Q):aD P g args st Q:=
 x.args fun hp=>by
  have:∀(us:List AV) (vs:List Value),dA hp st us vs→dA hp st (jH us) vs:=by
   intro us
   induction us with
   | nil=>intro vs y;exact y
   | cons a us ih=>
    intro vs y
    simp only[dA,jH] at y ⊢
    obtain⟨v,r,rfl,y1,y2⟩:=y
    exact⟨v,r,rfl,y1.deep,ih r y2⟩
  exact fun vs _=>this args vs
end Go.AW
namespace Go.AW
open Go.Proofs.Tryz
mutual
theorem Tm.aQQ:∀t:Tm,t.av.deep=t.av
 | .mk k n s ts=>by rw[aV];simp only[AV.deep,jH,EM ts]
theorem EM:∀ts:List Tm,jH (ts.map Tm.av)=ts.map Tm.av
 | []=>rfl
 | t::ts=>by simp only[bA,jH,Tm.aQQ t,EM ts]
end
theorem aVH(l:List Tm):lU Tm.same l l=true:=(PI (fun x _ y=>Tm.HQ x y)).2 rfl
abbrev a3V:=zi tI_4 (zi zI_4 (zi cE (zi tI_31 (zi zI_31 (zi aN (zi bG (zi bH (zi b9 (zi tI_59 (zi zI_59 (zi t8 tW)))))))))))
theorem aQ8(l l':List Tm)(st:aB):aD prog 81 [cU l,cU l'] st (fun r st'=>r=.bool (lU Tm.same l l')∧st'=st):=by
 refine wF [1000000] 2 func81 ntmps81 rfl rfl ?_
 intro _
 simp -implicitDefEqProofs only[cU,aA,seval,a3V]
 refine(V3 l l' 133 _ fun x _ y s=>JU x y s).to ?_
 simp -implicitDefEqProofs only[aA,seval]
abbrev L7:=zi tI_3 (zi zI_3 (zi aX (zi tI_4 (zi zI_4 (zi cE (zi tI_26 (zi zI_26 (zi rA (zi vL (zi vN (zi BH (zi tI_59 (zi zI_59 (zi t8 tW))))))))))))))
theorem JZ(L:List (List Tm))(st:aB):aD prog 30 [.slice (L.map cU),.slice (L.map cU)] st (fun r st'=>r=.bool true∧st'=st):=by
 refine wF [1000000] 2 func30 ntmps30 rfl rfl ?_
 simp only[eC,AV.fits,eF,aF]
 intro ⟨⟨hl,_⟩,_⟩
 simp -implicitDefEqProofs only[bU,aF,aA,seval,L7]
 refine eP (σ:=Unit) [1000000] [0,1] L (fun _ _=>True) (fun i _=>[(4,.bool false),(5,.int .i64 i)]) (fun _ _=>st) (by decide +kernel) ⟨(),trivial,aO.mk (by simp -implicitDefEqProofs only[aA,↓aU,seval])⟩ (fun i x _ hx hlt bV hdr _=>?_) (fun _ hge _=>?_)
 case refine_2=>
  simp -implicitDefEqProofs only[hge,aF,aA,seval,L7]
 have hw:=bO (n:=(i:Int)+1)
 have hat:dF prog 26 (.slice (L.map cU)) (.int .i64 (i:Int))=some (.pptr (cU x)):=bM (av:=cU) rA hx rfl
 simp -implicitDefEqProofs only[bV,aF,aA,seval,L7]
 refine wX [(0,1),(1,1),(2,1),(3,1),(4,1),(5,1),(6,1),(7,1),(8,0),(9,1)] [0,1,2,3,4,5,6,7,9] eH mixed rfl eT ?_
 simp -implicitDefEqProofs only[hat,aA,seval,L7]
 refine(aQ8 x x _).to ?_
 rw[aVH]
 simp -implicitDefEqProofs only[hw,aA,seval]
 refine⟨eT,?_⟩
 exact⟨(),aO.mk (by simp -implicitDefEqProofs only[aA,seval])⟩

def w8(T:Tm→ByteArray)(t:Tm):Prop:=(∀st:aB,aD prog 213 [t.av] st (fun r st'=>r=.str (T t)∧st'=st))∧(T t).size≤32*t.nodes∧1≤(T t).size∧t.nodes≤1000
abbrev TA:=zi tI_3 (zi zI_3 (zi aX (zi tI_9 (zi zI_9 (zi cI (zi tI_31 (zi zI_31 (zi aN (zi bG (zi bH (zi b9 (zi tI_66 (zi zI_66 (zi bQ (zi bR (zi bS (zi bT bP)))))))))))))))))
theorem WQ{T:Tm→ByteArray}(l:List Tm)(hT:∀t∈l,w8 T t)(hn:bF Tm.nodes l≤10000)(hl:l.length≤10000)(st:aB):aD prog 280 [.slice (l.map Tm.av)] st (fun r st'=>r=.str (lE T l)∧st'=st):=by
 refine wF [1000000] 1 func280 ntmps280 rfl rfl ?_
 intro _
 simp -implicitDefEqProofs only[aA,seval]
 refine eP (σ:=Unit) [1000000] [0,2] l (fun i _=>True) (fun i _=>[(3,.str (lE T (l.take i))),(4,.int .i64 i)]) (fun _ _=>st) (by decide +kernel) ⟨(),trivial,aO.mk (by simp -implicitDefEqProofs only[kS,aA,↓aU,seval]<;>rfl)⟩ (fun i x _ hx hlt bV hdr hinv=>?_) (fun _ hge hinv=>?_)
 case refine_2=>
  rw[eS]
  simp -implicitDefEqProofs only[hge,aF,aA,seval,TA]
 have hxm:=cP hx
 obtain⟨c1,c2,c3,c4⟩:=hT x hxm
 have hw:=bO (n:=(i:Int)+1)
 have hat:=bM (av:=Tm.av) aN hx (aJ x)
 have iS:=aQI (T:=T) hx
 have hsz:=JN (T:=T) (l:=l.take i) fun y hy=>(hT y (mC hy)).2.1
 have hsl:bF Tm.nodes (l.take i)≤bF Tm.nodes l:=aM2 l i
 have hln:(l.take i).length≤10000:=by rw[dS];omega
 have hm:maxLen=9223372036854775807:=by rfl
 have hs1:(lE T (l.take i)).size+(⟨#[44]⟩:ByteArray).size≤maxLen:=by show _+1≤_;omega
 have hs2:(lE T (l.take i)++(⟨#[44]⟩:ByteArray)).size+(T x).size≤maxLen:=by rw[dG];show _+1+_≤_;omega
 have hs3:(lE T (l.take i)).size+(T x).size≤maxLen:=by omega
 by_cases h0:0<i
 · rw[aH h0] at iS
   have h0':((0:Int)<(i:Int))=True:=dB (by omega)
   simp -implicitDefEqProofs only[aF,hat,aT,aJ,bV,h0',hs1,↓reduceIte,bU,aA,seval,TA]
   refine(c1 _).to ?_
   simp -implicitDefEqProofs only[hs2,↓reduceIte,aA,seval]
   exact⟨(),aO.mk (by simp -implicitDefEqProofs only[hw,iS,↓reduceIte,aA,seval])⟩
 · rw[aE h0] at iS
   have h0':((0:Int)<(i:Int))=False:=cH (by omega)
   simp -implicitDefEqProofs only[aF,hat,aT,aJ,bV,h0',↓reduceIte,bU,bZ,aA,seval,TA]
   refine(c1 _).to ?_
   simp -implicitDefEqProofs only[hs3,↓reduceIte,aA,seval]
   exact⟨(),aO.mk (by simp -implicitDefEqProofs only[hw,iS,↓reduceIte,aA,seval])⟩
abbrev H6:=zi tI_3 (zi zI_3 (zi aX (zi tI_9 (zi zI_9 (zi cI (zi tI_66 (zi zI_66 (zi bQ (zi bR (zi bS (zi bT bP)))))))))))
theorem WR{T:Tm→ByteArray}(t:Tm)(hT:w8 T t)(lv:Nat)(hlv:lv≤10)(st:aB):aD prog 334 [t.av,.int .i64 (lv:Int)] st (fun r st'=>r=.str (tY T t lv)∧st'=st):=by
 obtain⟨c1,c2,c3,c4⟩:=hT
 have hm:maxLen=9223372036854775807:=by rfl
 have hs1:(⟨#[40]⟩:ByteArray).size+(T t).size≤maxLen:=by show 1+_≤_;omega
 have hs2:((⟨#[40]⟩:ByteArray)++T t).size+(⟨#[41]⟩:ByteArray).size≤maxLen:=by rw[dG];show 1+_+1≤_;omega
 have hi:=WS t
 obtain⟨k,n,s,ts⟩:=t
 rw[show tY T (.mk k n s ts) lv=if(v6 (.mk k n s ts)&&decide (lv<dQ s))=true then(⟨#[40]⟩++T (.mk k n s ts))++⟨#[41]⟩ else T (.mk k n s ts) from rfl]
 generalize hTT:T (.mk k n s ts)=u at *
 simp only[aV] at hi c1 ⊢
 refine wF [1000000] 2 func334 ntmps334 rfl rfl ?_
 intro _
 simp -implicitDefEqProofs only[aA,seval,H6]
 refine(hi _).to ?_
 cases hk:v6 (.mk k n s ts) with
 | false=>
  rw[gK,aE (by decide)]
  simp -implicitDefEqProofs only[aA,seval,H6]
  refine(c1 _).to ?_
  simp -implicitDefEqProofs only[aA,seval]
 | true=>
  rw[eV]
  simp -implicitDefEqProofs only[aA,seval,H6]
  refine(vF s _).to ?_
  by_cases h:lv<dQ s
  · rw[gM h,aH rfl]
    have h':((lv:Int)<(dQ s:Int))=True:=dB (by omega)
    simp -implicitDefEqProofs only[h',↓reduceIte,bU,aA,seval,H6]
    refine(c1 _).to ?_
    simp -implicitDefEqProofs only[hs1,hs2,↓reduceIte,aA,seval]
  · rw[fS h,aE (by decide)]
    have h':((lv:Int)<(dQ s:Int))=False:=cH (by omega)
    simp -implicitDefEqProofs only[h',↓reduceIte,bZ,aA,seval,H6]
    refine(c1 _).to ?_
    simp -implicitDefEqProofs only[↓reduceIte,aA,seval]
abbrev S9:=zi tI_3 (zi zI_3 (zi aX (zi tI_9 (zi zI_9 (zi cI (zi tI_66 (zi zI_66 (zi bQ (zi bR (zi bS (zi bT bP)))))))))))
theorem aSX{T:Tm→ByteArray}(t:Tm)(hT:w8 T t)(lv:Nat)(hlv:lv≤10)(st:aB):aD prog 277 [t.av,.int .i64 (lv:Int)] st (fun r st'=>r=.str (AK T t lv)∧st'=st):=by
 have hb:=WR t hT lv hlv
 obtain⟨c1,c2,c3,c4⟩:=hT
 have hm:maxLen=9223372036854775807:=by rfl
 have hs1:(⟨#[40]⟩:ByteArray).size+(T t).size≤maxLen:=by show 1+_≤_;omega
 have hs2:((⟨#[40]⟩:ByteArray)++T t).size+(⟨#[41]⟩:ByteArray).size≤maxLen:=by rw[dG];show 1+_+1≤_;omega
 have hi:=WT t
 unfold AK
 refine wF [1000000] 2 func277 ntmps277 rfl rfl ?_
 intro _
 simp -implicitDefEqProofs only[aT,aJ,cG,↓reduceIte,aA,seval,S9]
 refine(hi _).to ?_
 cases hk:D7 t with
 | false=>
  rw[aE (by decide)]
  simp -implicitDefEqProofs only[aT,aJ,↓reduceIte,aA,seval,S9]
  refine(hb _).to ?_
  simp -implicitDefEqProofs only[↓reduceIte,aA,seval]
 | true=>
  rw[aH rfl]
  simp -implicitDefEqProofs only[aT,aJ,↓reduceIte,aA,seval,S9]
  refine(c1 _).to ?_
  simp -implicitDefEqProofs only[↓reduceIte,hs1,hs2,aA,seval]
abbrev aNX:=zi tI_3 (zi zI_3 (zi aX (zi tI_4 (zi zI_4 (zi cE (zi tI_9 (zi zI_9 (zi cI (zi tI_66 (zi zI_66 (zi bQ (zi bR (zi bS (zi bT bP))))))))))))))
theorem aS3{T:Tm→ByteArray}(t:Tm)(hT:w8 T t)(lv:Nat)(hlv:lv≤10)(st:aB):aD prog 279 [t.av,.int .i64 (lv:Int)] st (fun r st'=>r=.str (A6 T t lv)∧st'=st):=by
 have hb:=WR t hT lv hlv
 have hbs:=OE (T:=T) (t:=t) lv
 obtain⟨c1,c2,c3,c4⟩:=hT
 have hm:maxLen=9223372036854775807:=by rfl
 unfold A6
 generalize tY T t lv=u at *
 have hs1:(⟨#[40]⟩:ByteArray).size+u.size≤maxLen:=by show 1+_≤_;omega
 have hs2:((⟨#[40]⟩:ByteArray)++u).size+(⟨#[41]⟩:ByteArray).size≤maxLen:=by rw[dG];show 1+_+1≤_;omega
 have hi:=WT t
 have hpl:=aS0 u (by omega)
 refine wF [1000000] 2 func279 ntmps279 rfl rfl ?_
 intro _
 simp -implicitDefEqProofs only[aT,aJ,cG,↓reduceIte,aA,seval,aNX]
 refine(hb _).to ?_
 simp -implicitDefEqProofs only[aT,aJ,↓reduceIte,aA,seval,aNX]
 refine(hi _).to ?_
 cases hk:D7 t with
 | true=>
  rw[uR,aH rfl]
  simp -implicitDefEqProofs only[↓reduceIte,hs1,hs2,aA,seval]
 | false=>
  rw[oV]
  simp -implicitDefEqProofs only[↓reduceIte,aA,seval]
  refine(hpl _).to ?_
  cases hq:LQ (sb u) with
  | true=>
   rw[aE (by decide)]
   simp -implicitDefEqProofs only[↓reduceIte,aA,seval]
  | false=>
   rw[aH (by decide)]
   simp -implicitDefEqProofs only[↓reduceIte,hs1,hs2,aA,seval]
end Go.AW
