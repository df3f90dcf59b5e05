/- A held list and a struct that tells of it: the list is never written again. -/
import Derived.Test.YtimfffmcljmfgaaGreatDoorUui
import Derived.Test.YtimfffmcljmfgaaGreatDoorUuk
import Derived.Test.YtimfffmcljmfgaaGreatDoorUul
import Derived.Test.YtimfffmcljmfgaaGreatDoorUuf
import Derived.Lib.SliceRun
set_option linter.unusedSimpArgs false
set_option linter.unusedVariables false
set_option maxRecDepth 100000
namespace Go.AW
theorem cB.of{h:bK}{st st':aB}(hk:∀x,st x=none→st' x=none):cB h st h st':=⟨c7 _,fun x _ e=>⟨rfl,hk x e⟩,fun _ c _ _ e=>⟨c,e,rfl⟩⟩
theorem fX.aWP{φ:AF}{st:aB}{b c:Nat}{es cs:List AV}(hbc:b≠c)(h1:st b=some (.cells (es.flatMap AV.cells)))(h2:∀e∈es,e.cF=false)(h3:gZ es)(hc:st c=some (.cells cs)) :
 fX φ st φ ((st.erase b).aC c (.cells (lG b es cs))):=fun h tmps S F=>by
 have T2:cB h (st.erase b) h ((st.erase b).aC c (.cells (lG b es cs))):=cB.of fun x hx=>by
  have:x≠c:=by rintro rfl;simp [aB.erase,dD hbc,hc] at hx
  rw[aB.aL _ _ this];exact hx
 have T:cB h st h ((st.erase b).aC c (.cells (lG b es cs))):=((jI st b).step h).trans T2
 refine⟨fun x o hx=>?_,T,fun d=>(F d).mono T⟩
 by_cases e:x=c
 · subst e
   rw[aB.aP] at hx
   cases hx
   obtain⟨hl,c0,t,e1,e2,vs,e3,e4⟩:=S x _ hc
   refine⟨hl,c0,t,e1,?_,vs,e3,aY.mono T2 _ _ (aY.fz S h1 h2 h3 cs vs e4)⟩
   rw[KQ,aF];exact e2
 · rw[aB.aL _ _ e] at hx
   have hx':st x=some o:=by
    simp only[aB.erase] at hx
    split at hx
    · cases hx
    · exact hx
   obtain⟨hl,y⟩:=S x o hx'
   exact⟨hl,kT.mono T rfl y⟩
theorem fX.a2V{φ:AF}{st:aB}{c:Nat}{cs:List AV}(hc:st c=some (.cells cs)):fX φ st φ (st.aC c (.cells (gY cs))):=fun h tmps S F=>by
 have T:cB h st h (st.aC c (.cells (gY cs))):=cB.of fun x hx=>by
  have:x≠c:=by rintro rfl;rw[hc] at hx;cases hx
  rw[aB.aL _ _ this];exact hx
 refine⟨fun x o hx=>?_,T,fun d=>(F d).mono T⟩
 by_cases e:x=c
 · subst e
   rw[aB.aP] at hx
   cases hx
   obtain⟨hl,c0,t,e1,e2,vs,e3,e4⟩:=S x _ hc
   refine⟨hl,c0,t,e1,?_,vs,e3,aY.mono T _ _ (aY.soft cs vs e4)⟩
   rw[yE,aF];exact e2
 · rw[aB.aL _ _ e] at hx
   obtain⟨hl,y⟩:=S x o hx
   exact⟨hl,kT.mono T rfl y⟩
theorem aZ1{φ:AF}{S:aB}{c b:Nat}{k n:Int}{s:ByteArray}{l:List AV}(hb:l≠[]→(S.aC c (.cells ([.int .i64 k,.int .i64 n,.str s]++ [bD 4 b l]))) b=none)(hj:∀e∈l,e.cF=false)(hE:gZ l) :
 fX φ (fK S c b [.int .i64 k,.int .i64 n,.str s] l) φ (S.aC c (.cells [.int .i64 k,.int .i64 n,.str s,.slice l])):=by
 have hcc:=eN hb
 cases l with
 | nil=>
  have:=fX.a2V (φ:=φ) hcc
  unfold fK at this ⊢
  simp only[xF,dC] at this
  exact this
 | cons y l=>
  have h0:=hb (by simp)
  have hne:b≠c:=by rintro rfl;rw[aB.aP] at h0;cases h0
  have h1:fK S c b [.int .i64 k,.int .i64 n,.str s] (y::l) b=some (.cells ((y::l).flatMap AV.cells)):=by unfold fK;simp only[a7];exact aB.aP _ _ _
  have:=fX.aWP (φ:=φ) hne h1 hj hE hcc
  have e:(fK S c b [.int .i64 k,.int .i64 n,.str s] (y::l)).erase b=S.aC c (.cells ([.int .i64 k,.int .i64 n,.str s]++ [bD 4 b (y::l)])):=by unfold fK;simp only[a7];exact aB.vO _ _ _ h0
  rw[e,dC] at this
  simpa [lG,AV.fz,bD] using this
theorem G7{S:aB}{c b:Nat}{hd hd' l:List AV}(hb:l≠[]→(S.aC c (.cells (hd++ [bD 4 b l]))) b=none) :
 (fK S c b hd l).aC c (.cells (hd'++ [bD 4 b l]))=fK S c b hd' l∧(l≠[]→(S.aC c (.cells (hd'++ [bD 4 b l]))) b=none):=by
 have hne:l≠[]→c≠b:=fun h e=>by have:=hb h;rw[←e,aB.aP] at this;cases this
 refine⟨by unfold fK;rw[oZ hne,dC],fun h=>?_⟩
 have:=hb h
 rw[aB.aL _ _ (dD (hne h))] at this ⊢
 exact this
theorem PF{s0 st:aB}{b:Nat}{l:List AV}(D:aM s0 st):aM (a7 s0 b l) (a7 st b l):=by
 cases l with
 | nil=>exact D
 | cons y l=>
  intro x
  simp only[a7]
  by_cases e:x=b
  · subst e;simp [aB.aP]
  · rw[aB.aL _ _ e,aB.aL _ _ e];exact D x
end Go.AW
namespace Go.AW
open Go.Proofs.Tryz
abbrev aM8:=zi tI_3 (zi zI_3 (zi aX (zi tI_46 (zi zI_46 (zi dH (zi fA (zi eX (zi fB (zi tI_66 (zi zI_66 (zi bQ (zi bR (zi bS (zi bT (zi bP (zi tI_116 zI_116))))))))))))))))
theorem WO(bs:List Bt)(c p:Nat)(st:aB)(hp:p+5000≤1099511627776)(hR:dO st c bs p):aD prog 107 [.ptr c 0] st (Dr bs c p 5000 st ND):=by
 refine aD.mK ?_
 refine wF [1000000] 1 func107 ntmps107 rfl rfl ?_
 intro _
 simp -implicitDefEqProofs only[aA,seval,aM8]
 intro b hb
 have hbc:=hR.ne hb
 refine(xI [3,2,4,1] (by simp) (by simp) bs c p (by omega) _ (hR.aC hbc)).mono ?_
 rintro _ _ ⟨y,hy,rfl,rfl⟩
 obtain⟨n,rfl,hn⟩:∃n:Nat,y=n∧n≤4:=by
  simp only[cX,dN,dV] at hy
  rcases hy with rfl | rfl | rfl | rfl
  · exact⟨3,rfl,by omega⟩
  · exact⟨2,rfl,by omega⟩
  · exact⟨4,rfl,by omega⟩
  · exact⟨1,rfl,by omega⟩
 have hpw:4 ^ (n+2)≤4096:=by
  have:=NM (n:=4) (by omega) (show n+2≤6 by omega)
  simpa using this
 simp -implicitDefEqProofs only[aA,seval]
 refine(WK bs c n (p+1) _ (by omega) (by omega) dO.new).mono ?_
 rintro _ _ ⟨p1,hp1,aYK,rfl,t1,ht1,rfl⟩
 rw[dC]
 simp -implicitDefEqProofs only[bY,cC,eO (bY _),eK (aT _),aK,hbc,aA,seval,aM8]
 refine⟨st.aC c (cD bs p1),?_,p1,by omega,by omega,rfl,t1,ht1,rfl⟩
 intro x
 by_cases e4:x=b<;>by_cases ec:x=c<;>simp_all [aB.aC]
mutual
def Tm.sh(m:Int):Tm→Tm
 | .mk k n s ts=>.mk k (if k=1 then IntKind.i64.wrap (n+m) else n) s (MS m ts)
def MS(m:Int):List Tm→List Tm
 | []=>[]
 | t::ts=>t.sh m::MS m ts
end
theorem aOB(m:Int):∀ts:List Tm,MS m ts=ts.map (Tm.sh m)
 | []=>rfl
 | t::ts=>by simp only[MS,bA,aOB m ts]
theorem Tm.SI(m k n:Int)(s:ByteArray)(ts:List Tm):(Tm.mk k n s ts).sh m=.mk k (if k=1 then IntKind.i64.wrap (n+m) else n) s (ts.map (Tm.sh m)):=by simp only[Tm.sh,aOB]
abbrev pQ:=zi tI_3 (zi zI_3 (zi aX (zi tI_9 (zi zI_9 (zi cI (zi tI_31 (zi zI_31 (zi aN (zi bG (zi bH (zi b9 (zi tI_66 (zi zI_66 (zi bQ (zi bR (zi bS (zi bT bP)))))))))))))))))
theorem OP(m:Int):∀(t:Tm) (st:aB),t.small=true→aD prog 301 [t.av,.int .i64 m] st (fun r st'=>r=(t.sh m).av∧st'=st)
 | .mk k n s ts,st,hsm=>by
  obtain⟨hlen,pI⟩:=Tm.oR hsm
  have IH:=fun(x:Tm) (hx:x∈ts) st=>OP m x st (pI x hx)
  refine aD.pZ (aD.fin ?_)
  simp only[aV]
  refine wF [1000000,5] 2 func301 ntmps301 rfl rfl ?_
  simp only[eC,AV.fits,eF,aF]
  intro ⟨_,_,_,hl,_⟩
  simp -implicitDefEqProofs only[aK,aA,↓aU,seval,pQ]
  intro b2 hb2 c hc
  have hne:c≠b2:=by rintro rfl;rw[aB.aP] at hc;cases hc
  have hn2:st c=none:=by rw[aB.aL st _ hne] at hc;exact hc
  have nS:b2≠c:=dD hne
  have hS:(st.aC b2 (.cells [AV.int .i64 0,AV.int .i64 0,AV.str ⟨#[]⟩,AV.fslice []])) b2≠none:=by rw[aB.aP];simp
  refine aQ (fun h=>?_) (fun h=>?_)
  · simp only[bJ] at h
    simp -implicitDefEqProofs only[aK,dC,aA,seval,pQ]
    refine eP (σ:=Nat) [1000000] [1,2,4,5] ts (fun i b=>(((ts.take i).map (Tm.sh m)).map Tm.av≠[]→(aB.aC (st.aC b2 (.cells [AV.int .i64 0,AV.int .i64 0,AV.str ⟨#[]⟩,AV.fslice []])) c (.cells ([AV.int .i64 k,AV.int .i64 (IntKind.i64.wrap (n+m)),AV.str s]++ [bD 4 b (((ts.take i).map (Tm.sh m)).map Tm.av)]))) b=none)) (fun i b=>[(6,.int .i64 i)]) (fun i b=>fK (st.aC b2 (.cells [AV.int .i64 0,AV.int .i64 0,AV.str ⟨#[]⟩,AV.fslice []])) c b [AV.int .i64 k,AV.int .i64 (IntKind.i64.wrap (n+m)),AV.str s] (((ts.take i).map (Tm.sh m)).map Tm.av)) (by decide +kernel)
     ⟨0,fun h=>absurd rfl h,aO.mk (by simp -implicitDefEqProofs only[aA,↓aU,seval])⟩ (fun i x b hx hlt bV hdr hinv=>?_) (fun b hge hinv=>?_)
    case refine_1=>
     have hw:=bO (n:=(i:Int)+1)
     have cZ:(((ts.take i).map (Tm.sh m)).map Tm.av).length=i:=by simp only[aF,dS];omega
     have htk:(ts.take (i+1)).map (Tm.sh m)=(ts.take i).map (Tm.sh m)++ [(Tm.sh m) x]:=by rw[fG,hx];simp
     have hbo:=eN hinv
     simp -implicitDefEqProofs only[aF,bV,aA,seval,pQ]
     refine wP [(0,1),(2,1),(4,1),(7,1),(1,2),(3,2),(5,1),(6,2),(8,2),(9,1),(10,0),(11,1),(12,0)] [0,2,4,7,1,3,5,6,8,9,11] mixed ?_
     simp -implicitDefEqProofs only[bM (av:=Tm.av) aN hx (aJ x),aT,aJ,hbo,mZ,hH,aA,seval,pQ]
     refine iD (IH x (cP hx) _) ?_
     simp -implicitDefEqProofs only[aT,aJ,cG,hH,aA,seval,pQ]
     refine eW aN bG bH rfl rfl (fM (aJ _) (cC _)) (d6 _) hinv (by simp only[cZ,aS,aZ];omega) (by simp only[cZ,aS,aZ];omega) (fun b' hb'=>?_)
     rw[show(((ts.take i).map (Tm.sh m)).map Tm.av)++ [((Tm.sh m) x).av]=((ts.take (i+1)).map (Tm.sh m)).map Tm.av by rw[htk];simp] at hb' ⊢
     obtain⟨g1,g2,g3⟩:=oL hb'
     simp only[fL,eR] at g1 g3
     simp -implicitDefEqProofs only[g3,m6,fJ,aK,g1,hw,aK,aA,seval,pQ]
     exact⟨b',g2,aO.mk (by simp -implicitDefEqProofs only[aA,seval])⟩
    have hbo:=eN hinv
    rw[eS] at hinv hbo ⊢
    simp -implicitDefEqProofs only[aF,hge,aA,seval,pQ]
    simp -implicitDefEqProofs only[hbo,aK,aA,seval,pQ]
    have h1:=gS hinv hS nS
    rw[aB.aP] at h1
    simp -implicitDefEqProofs only[h1,fJ,aA,seval]
    obtain⟨h2,h3⟩:=kE (o:=.cells [AV.int .i64 k,AV.int .i64 (IntKind.i64.wrap (n+m)),AV.str s,bD 4 b ((ts.map (Tm.sh m)).map Tm.av)]) hinv hS nS
    refine⟨b,_,_,h2,h3,iU _,⟨4,d6 _⟩,?_,(((aM.refl _).aC hb2).aC hn2).aC hb2⟩
    simp only[fZ,bA,aW,eG,iY,iP,←aV]
    rw[Tm.SI,aH h]
  · simp only[dJ] at h
    simp -implicitDefEqProofs only[aA,seval]
    refine eP (σ:=Nat) [1000000] [1,2,4,5] ts (fun i b=>(((ts.take i).map (Tm.sh m)).map Tm.av≠[]→(aB.aC (st.aC b2 (.cells [AV.int .i64 0,AV.int .i64 0,AV.str ⟨#[]⟩,AV.fslice []])) c (.cells ([AV.int .i64 k,AV.int .i64 (n),AV.str s]++ [bD 4 b (((ts.take i).map (Tm.sh m)).map Tm.av)]))) b=none)) (fun i b=>[(6,.int .i64 i)]) (fun i b=>fK (st.aC b2 (.cells [AV.int .i64 0,AV.int .i64 0,AV.str ⟨#[]⟩,AV.fslice []])) c b [AV.int .i64 k,AV.int .i64 (n),AV.str s] (((ts.take i).map (Tm.sh m)).map Tm.av)) (by decide +kernel)
     ⟨0,fun h=>absurd rfl h,aO.mk (by simp -implicitDefEqProofs only[aA,↓aU,seval])⟩ (fun i x b hx hlt bV hdr hinv=>?_) (fun b hge hinv=>?_)
    case refine_1=>
     have hw:=bO (n:=(i:Int)+1)
     have cZ:(((ts.take i).map (Tm.sh m)).map Tm.av).length=i:=by simp only[aF,dS];omega
     have htk:(ts.take (i+1)).map (Tm.sh m)=(ts.take i).map (Tm.sh m)++ [(Tm.sh m) x]:=by rw[fG,hx];simp
     have hbo:=eN hinv
     simp -implicitDefEqProofs only[aF,bV,aA,seval,pQ]
     refine wP [(0,1),(2,1),(4,1),(7,1),(1,2),(3,2),(5,1),(6,2),(8,2),(9,1),(10,0),(11,1),(12,0)] [0,2,4,7,1,3,5,6,8,9,11] mixed ?_
     simp -implicitDefEqProofs only[bM (av:=Tm.av) aN hx (aJ x),aT,aJ,hbo,mZ,hH,aA,seval,pQ]
     refine iD (IH x (cP hx) _) ?_
     simp -implicitDefEqProofs only[aT,aJ,cG,hH,aA,seval,pQ]
     refine eW aN bG bH rfl rfl (fM (aJ _) (cC _)) (d6 _) hinv (by simp only[cZ,aS,aZ];omega) (by simp only[cZ,aS,aZ];omega) (fun b' hb'=>?_)
     rw[show(((ts.take i).map (Tm.sh m)).map Tm.av)++ [((Tm.sh m) x).av]=((ts.take (i+1)).map (Tm.sh m)).map Tm.av by rw[htk];simp] at hb' ⊢
     obtain⟨g1,g2,g3⟩:=oL hb'
     simp only[fL,eR] at g1 g3
     simp -implicitDefEqProofs only[g3,m6,fJ,aK,g1,hw,aK,aA,seval,pQ]
     exact⟨b',g2,aO.mk (by simp -implicitDefEqProofs only[aA,seval])⟩
    have hbo:=eN hinv
    rw[eS] at hinv hbo ⊢
    simp -implicitDefEqProofs only[aF,hge,aA,seval,pQ]
    simp -implicitDefEqProofs only[hbo,aK,aA,seval,pQ]
    have h1:=gS hinv hS nS
    rw[aB.aP] at h1
    simp -implicitDefEqProofs only[h1,fJ,aA,seval]
    obtain⟨h2,h3⟩:=kE (o:=.cells [AV.int .i64 k,AV.int .i64 (n),AV.str s,bD 4 b ((ts.map (Tm.sh m)).map Tm.av)]) hinv hS nS
    refine⟨b,_,_,h2,h3,iU _,⟨4,d6 _⟩,?_,(((aM.refl _).aC hb2).aC hn2).aC hb2⟩
    simp only[fZ,bA,aW,eG,iY,iP,←aV]
    rw[Tm.SI,aE h]
termination_by t=>SizeOf.sizeOf t
decreasing_by have:=List.sizeOf_lt_of_mem hx;simp only[Tm.mk.sizeOf_spec];omega
abbrev BA:=zi tI_3 (zi zI_3 (zi aX (zi tI_9 (zi zI_9 (zi cI (zi tI_31 (zi zI_31 (zi aN (zi bG (zi bH (zi b9 (zi tI_66 (zi zI_66 (zi bQ (zi bR (zi bS (zi bT bP)))))))))))))))))
theorem aSG(k n:Int)(s:ByteArray)(ts:List Tm)(st:aB)(hsm:(Tm.mk k n s ts).small=true):aD prog 102 [(Tm.mk k n s ts).av] st (fun r st'=>∃b,r=.agg [.int .i64 k,.int .i64 n,.str s,bD 4 b (ts.map Tm.av)]∧st'=a7 st b (ts.map Tm.av)∧(ts.map Tm.av≠[]→st b=none)):=by
 obtain⟨hlen,pI⟩:=Tm.oR hsm
 have IH:=fun(x:Tm) (hx:x∈ts) st=>zJ x st (pI x hx)
 refine aD.mK ?_
 simp only[aV]
 refine wF [] 1 func102 ntmps102 rfl rfl ?_
 simp only[eC,AV.fits,eF,aF]
 intro ⟨_,_,_,hl,_⟩
 simp -implicitDefEqProofs only[aA,seval,BA]
 intro b2 hb2 c hc
 have hne:c≠b2:=by rintro rfl;rw[aB.aP] at hc;cases hc
 have hn2:st c=none:=by rw[aB.aL st _ hne] at hc;exact hc
 simp -implicitDefEqProofs only[aK,aA,seval]
 refine eP (σ:=Nat) [] [1,2,3] ts (fun i b=>(((ts.take i).map (fun y=>y)).map Tm.av≠[]→(aB.aC (st.aC b2 (.cells [AV.int .i64 0,AV.int .i64 0,AV.str ⟨#[]⟩,AV.fslice []])) c (.cells ([AV.int .i64 k,AV.int .i64 n,AV.str s]++ [bD 4 b (((ts.take i).map (fun y=>y)).map Tm.av)]))) b=none)) (fun i b=>[(4,.int .i64 i)]) (fun i b=>fK (st.aC b2 (.cells [AV.int .i64 0,AV.int .i64 0,AV.str ⟨#[]⟩,AV.fslice []])) c b [AV.int .i64 k,AV.int .i64 n,AV.str s] (((ts.take i).map (fun y=>y)).map Tm.av)) (by decide +kernel)
  ⟨0,fun h=>absurd rfl h,aO.mk (by simp -implicitDefEqProofs only[aA,↓aU,seval])⟩ (fun i x b hx hlt bV hdr hinv=>?_) (fun b hge hinv=>?_)
 case refine_1=>
  have hw:=bO (n:=(i:Int)+1)
  have cZ:(((ts.take i).map (fun y=>y)).map Tm.av).length=i:=by simp only[aF,dS];omega
  have htk:(ts.take (i+1)).map (fun y=>y)=(ts.take i).map (fun y=>y)++ [(fun y=>y) x]:=by rw[fG,hx];simp
  have hbo:=eN hinv
  simp -implicitDefEqProofs only[aF,bV,aA,seval,BA]
  refine wP [(0,1),(2,1),(4,1),(1,2),(3,2),(5,1),(6,2),(7,2),(8,1),(9,0),(10,1),(11,0)] [0,2,4,1,3,5,6,7,8,10] mixed ?_
  simp -implicitDefEqProofs only[bM (av:=Tm.av) aN hx (aJ x),aT,aJ,hbo,mZ,hH,aA,seval,BA]
  refine iD (IH x (cP hx) _) ?_
  simp -implicitDefEqProofs only[aT,aJ,cG,hH,aA,seval,BA]
  refine eW aN bG bH rfl rfl (fM (aJ _) (cC _)) (d6 _) hinv (by simp only[cZ,aS,aZ];omega) (by simp only[cZ,aS,aZ];omega) (fun b' hb'=>?_)
  rw[show(((ts.take i).map (fun y=>y)).map Tm.av)++ [((fun y=>y) x).av]=((ts.take (i+1)).map (fun y=>y)).map Tm.av by rw[htk];simp] at hb' ⊢
  obtain⟨g1,g2,g3⟩:=oL hb'
  simp only[fL,eR] at g1 g3
  simp -implicitDefEqProofs only[g3,m6,fJ,aK,g1,hw,aA,seval,BA]
  exact⟨b',g2,aO.mk (by simp -implicitDefEqProofs only[aA,seval])⟩
 have hbo:=eN hinv
 rw[eS] at hinv hbo ⊢
 simp -implicitDefEqProofs only[aF,hge,aA,seval,BA]
 simp -implicitDefEqProofs only[hbo,aA,seval,BA]
 have nS:b2≠c:=dD hne
 have hS:(st.aC b2 (.cells [AV.int .i64 0,AV.int .i64 0,AV.str ⟨#[]⟩,AV.fslice []])) b2≠none:=by rw[aB.aP];simp
 have h1:=gS hinv hS nS
 rw[aB.aP] at h1
 simp -implicitDefEqProofs only[h1,fJ,aK,aA,seval]
 obtain⟨h2,h3⟩:=kE (o:=.cells [AV.int .i64 k,AV.int .i64 n,AV.str s,bD 4 b ((ts.map fun y=>y).map Tm.av)]) hinv hS nS
 simp only[fL,eR] at h2 h3
 rw[h2]
 have D:∀o o' o'',aM (((st.aC b2 o).aC c o').aC b2 o'') st:=fun o o' o''=>(((aM.refl _).aC hb2).aC hn2).aC hb2
 simp only[List.map_id'] at h3 ⊢
 exact⟨_,PF (D _ _ _),b,rfl,rfl,fun h=>(D _ _ _ b).1 (h3 h)⟩
abbrev mP:=zi tI_3 (zi zI_3 (zi aX (zi tI_9 (zi zI_9 (zi cI (zi tI_31 (zi zI_31 (zi aN (zi bG (zi bH (zi b9 (zi tI_46 (zi zI_46 (zi dH (zi fA (zi eX (zi fB (zi tI_66 (zi zI_66 (zi bQ (zi bR (zi bS (zi bT (zi bP (zi tI_116 (zi zI_116 (zi tI_147 (zi zI_147 (zi iR (zi lS (zi lT mR)))))))))))))))))))))))))))))))
theorem ON(bs:List Bt)(c p:Nat)(t:Tm)(hsm:t.small=true)(st:aB)(hp:p+10≤1099511627776)(hR:dO st c bs p) :
 aD prog 106 [.ptr c 0,t.av] st (Dr bs c p 10 st (fun r=>∃t:Tm,r=t.av)):=by
 obtain⟨k,n,s,ts⟩:=t
 refine aD.mK (aD.fin ?_)
 refine wF [1000000,5] 2 func106 ntmps106 rfl rfl ?_
 intro _
 simp -implicitDefEqProofs only[aA,seval,mP]
 intro b4 h4
 have h4c:=hR.ne h4
 have hR':=fun o=>hR.aC (o:=o) h4c
 refine(aSG k n s ts _ hsm).mono ?_
 rintro _ _ ⟨b,rfl,rfl,hb⟩
 simp -implicitDefEqProofs only[fJ,aK,aA,↓aU,seval,mP]
 intro b5 h5
 obtain⟨hn5,hb5⟩:=CA h5
 have h54:b5≠b4:=by rintro rfl;rw[aB.aP] at hn5;cases hn5
 have QN:st b5=none:=by rw[aB.aL _ _ h54] at hn5;exact hn5
 have h5c:b5≠c:=hR.ne QN
 have hW4:∀q,((st.aC b4 (.cells [.int .i64 0,.int .i64 0,.str ⟨#[]⟩,.fslice []])).aC c (cD bs q)) b4=some (.cells [.int .i64 0,.int .i64 0,.str ⟨#[]⟩,.fslice []]):=fun q=>by rw[aB.aL _ _ h4c,aB.aP]
 have hdr:∀q Z Y,aM ((((st.aC b4 (.cells [.int .i64 0,.int .i64 0,.str ⟨#[]⟩,.fslice []])).aC c (cD bs q)).aC b5 Z).aC b4 Y) (st.aC c (cD bs q)):=fun q Z Y x=>by
  by_cases e4:x=b4<;>by_cases ec:x=c<;>by_cases e5:x=b5<;>simp_all [aB.aC]
 have e0:(a7 (st.aC b4 (.cells [.int .i64 0,.int .i64 0,.str ⟨#[]⟩,.fslice []])) b (ts.map Tm.av)).aC b5 (.cells [.int .i64 k,.int .i64 n,.str s,bD 4 b (ts.map Tm.av)])=fK (st.aC b4 (.cells [.int .i64 0,.int .i64 0,.str ⟨#[]⟩,.fslice []])) b5 b [.int .i64 k,.int .i64 n,.str s] (ts.map Tm.av):=by
  rw[oZ hb5];try rfl
 have i0:ts.map Tm.av≠[]→((st.aC b4 (.cells [.int .i64 0,.int .i64 0,.str ⟨#[]⟩,.fslice []])).aC b5 (.cells ([.int .i64 k,.int .i64 n,.str s]++ [bD 4 b (ts.map Tm.av)]))) b=none:=fun h=>by
  rw[aB.aL _ _ (dD (hb5 h))];exact hb h
 have hUc:(st.aC b4 (.cells [.int .i64 0,.int .i64 0,.str ⟨#[]⟩,.fslice []])) c≠none:=by rw[hR' _];simp
 rw[e0]
 have hRk:dO (fK (st.aC b4 (.cells [.int .i64 0,.int .i64 0,.str ⟨#[]⟩,.fslice []])) b5 b [.int .i64 k,.int .i64 n,.str s] (ts.map Tm.av)) c bs p:=by
  unfold dO
  rw[gS i0 hUc h5c.symm]
  exact hR' _
 refine(nN bs c p (by omega) 50 (by omega) (by omega) _ hRk).mono ?_
 rintro _ _ ⟨j,hj,rfl,rfl⟩
 obtain⟨e1,i1⟩:=qH (o:=cD bs (p+1)) i0 hUc h5c.symm
 rw[e1]
 have hWc:∀q,((st.aC b4 (.cells [.int .i64 0,.int .i64 0,.str ⟨#[]⟩,.fslice []])).aC c (cD bs q)) c≠none:=fun q=>by rw[aB.aP];simp
 have hRq:∀q (hd l:List AV),(l≠[]→(((st.aC b4 (.cells [.int .i64 0,.int .i64 0,.str ⟨#[]⟩,.fslice []])).aC c (cD bs q)).aC b5 (.cells (hd++ [bD 4 b l]))) b=none)→dO (fK ((st.aC b4 (.cells [.int .i64 0,.int .i64 0,.str ⟨#[]⟩,.fslice []])).aC c (cD bs q)) b5 b hd l) c bs q:=fun q hd l hi=>by
  unfold dO
  rw[gS hi (hWc q) h5c.symm,aB.aP]
  try rfl
 clear e0 i0 hRk e1
 simp -implicitDefEqProofs only[aA,seval]
 refine aQ (fun h0=>?_) (fun h0=>?_)
 · simp -implicitDefEqProofs only[aA,seval,mP]
   refine(xI [0,4,1,2,3] (by simp) (by simp) bs c (p+1) (by omega) _ (hRq _ _ _ i1)).mono ?_
   rintro _ _ ⟨y,_,rfl,rfl⟩
   obtain⟨e1,i1⟩:=qH (o:=cD bs (p+1+1)) i1 (hWc _) h5c.symm
   rw[dC] at e1 i1
   rw[e1]
   have hbo:=eN i1
   obtain⟨e2,i1⟩:=G7 (hd':=[.int .i64 y,.int .i64 n,.str s]) i1
   simp only[fL,eR] at e2
   simp -implicitDefEqProofs only[aK,hbo,aA,seval,mP]
   rw[e2]
   have hbo:=eN i1
   have h4o:=gS i1 (x:=b4) (by rw[hW4];simp) h54.symm
   rw[hW4] at h4o
   simp -implicitDefEqProofs only[h4o,fJ,aA,seval]
   obtain⟨g5,g6⟩:=kE (o:=.cells [.int .i64 (y),.int .i64 (n),.str (s),bD 4 b ((ts).map Tm.av)]) i1 (show((st.aC b4 (.cells [.int .i64 0,.int .i64 0,.str ⟨#[]⟩,.fslice []])).aC c (cD bs (p+1+1))) b4≠none by rw[hW4];simp) h54.symm
   refine⟨b,_,_,g5,g6,iU _,⟨4,d6 _⟩,st.aC c (cD bs (p+1+1)),hdr _ _ _,p+1+1,by omega,by omega,rfl,.mk (y) (n) (s) (ts),?_⟩
   simp only[fZ,bA,aW,eG,iY,iP,aV]
 simp -implicitDefEqProofs only[aA,seval]
 refine aQ (fun h0=>?_) (fun h0=>?_)
 · simp -implicitDefEqProofs only[aA,seval,mP]
   refine(xI [26,1000,-1000,-1,1] (by simp) (by simp) bs c (p+1) (by omega) _ (hRq _ _ _ i1)).mono ?_
   rintro _ _ ⟨y,_,rfl,rfl⟩
   obtain⟨e1,i1⟩:=qH (o:=cD bs (p+1+1)) i1 (hWc _) h5c.symm
   rw[dC] at e1 i1
   rw[e1]
   have hbo:=eN i1
   obtain⟨e2,i1⟩:=G7 (hd':=[.int .i64 k,.int .i64 y,.str s]) i1
   simp only[fL,eR] at e2
   simp -implicitDefEqProofs only[aK,hbo,aA,seval,mP]
   rw[e2]
   have hbo:=eN i1
   have h4o:=gS i1 (x:=b4) (by rw[hW4];simp) h54.symm
   rw[hW4] at h4o
   simp -implicitDefEqProofs only[h4o,fJ,aA,seval]
   obtain⟨g5,g6⟩:=kE (o:=.cells [.int .i64 (k),.int .i64 (y),.str (s),bD 4 b ((ts).map Tm.av)]) i1 (show((st.aC b4 (.cells [.int .i64 0,.int .i64 0,.str ⟨#[]⟩,.fslice []])).aC c (cD bs (p+1+1))) b4≠none by rw[hW4];simp) h54.symm
   refine⟨b,_,_,g5,g6,iU _,⟨4,d6 _⟩,st.aC c (cD bs (p+1+1)),hdr _ _ _,p+1+1,by omega,by omega,rfl,.mk (k) (y) (s) (ts),?_⟩
   simp only[fZ,bA,aW,eG,iY,iP,aV]
 simp -implicitDefEqProofs only[aA,seval]
 refine aQ (fun h0=>?_) (fun h0=>?_)
 · simp -implicitDefEqProofs only[aA,seval,mP]
   refine(FU [⟨#[]⟩,⟨#[88]⟩,⟨#[116,111,111,108,111,110,103]⟩,⟨#[195,169]⟩,⟨#[97]⟩] (by simp) (by simp) bs c (p+1) (by omega) _ (hRq _ _ _ i1)).mono ?_
   rintro _ _ ⟨y,_,rfl,rfl⟩
   obtain⟨e1,i1⟩:=qH (o:=cD bs (p+1+1)) i1 (hWc _) h5c.symm
   rw[dC] at e1 i1
   rw[e1]
   have hbo:=eN i1
   obtain⟨e2,i1⟩:=G7 (hd':=[.int .i64 k,.int .i64 n,.str y]) i1
   simp only[fL,eR] at e2
   simp -implicitDefEqProofs only[aK,hbo,aA,seval,mP]
   rw[e2]
   have hbo:=eN i1
   have h4o:=gS i1 (x:=b4) (by rw[hW4];simp) h54.symm
   rw[hW4] at h4o
   simp -implicitDefEqProofs only[h4o,fJ,aA,seval]
   obtain⟨g5,g6⟩:=kE (o:=.cells [.int .i64 (k),.int .i64 (n),.str (y),bD 4 b ((ts).map Tm.av)]) i1 (show((st.aC b4 (.cells [.int .i64 0,.int .i64 0,.str ⟨#[]⟩,.fslice []])).aC c (cD bs (p+1+1))) b4≠none by rw[hW4];simp) h54.symm
   refine⟨b,_,_,g5,g6,iU _,⟨4,d6 _⟩,st.aC c (cD bs (p+1+1)),hdr _ _ _,p+1+1,by omega,by omega,rfl,.mk (k) (n) (y) (ts),?_⟩
   simp only[fZ,bA,aW,eG,iY,iP,aV]
 simp -implicitDefEqProofs only[aA,seval]
 refine aQ (fun h0=>?_) (fun h0=>?_)
 · simp -implicitDefEqProofs only[aA,seval]
   refine iE (σ:=Nat×List Tm) [1000000,5] [4,5,10] (fun x=>(x.2.map Tm.av≠[]→(aB.aC ((st.aC b4 (.cells [.int .i64 0,.int .i64 0,.str ⟨#[]⟩,.fslice []])).aC c (cD bs (p+1))) b5 (.cells ([.int .i64 k,.int .i64 n,.str s]++ [bD 4 x.1 (x.2.map Tm.av)]))) x.1=none)) (fun _=>[]) (fun x=>fK ((st.aC b4 (.cells [.int .i64 0,.int .i64 0,.str ⟨#[]⟩,.fslice []])).aC c (cD bs (p+1))) b5 x.1 [.int .i64 k,.int .i64 n,.str s] (x.2.map Tm.av)) (fun x=>5 - x.2.length) (by decide +kernel) ⟨(b,ts),i1,aO.mk (by simp -implicitDefEqProofs only[aA,seval])⟩ ?_
   rintro⟨b,acc⟩ i1
   simp only at i1
   have hbo:=eN i1
   have haL:=tS (w:=4) (b:=b) (l:=acc.map Tm.av) b9
   simp -implicitDefEqProofs only[hbo,mZ,haL,aF,aA,seval,mP]
   refine aQ (fun h1=>?_) (fun h1=>?_)
   · simp only[bJ] at h1
     have cZ:(acc.map Tm.av).length≤4:=by rw[aF];omega
     simp -implicitDefEqProofs only[aA,seval]
     refine ET [(0,1),(1,1),(2,0),(3,1),(4,0),(5,1),(6,2)] [0,1,3,5] (eH.aC b5 (.cells [.int .i64 k,.int .i64 n,.str s,bD 4 b (acc.map Tm.av)])) mixed (by decide +kernel) (by decide +kernel) (by decide +kernel) rfl (iF hbo) ?_
     simp -implicitDefEqProofs only[mZ,aA,seval,mP]
     refine(CJ 1 _).to ?_
     simp -implicitDefEqProofs only[aT,aJ,cG,aA,seval,mP]
     refine⟨iF hbo,?_⟩
     refine eW aN bG bH rfl rfl (fM (aJ _) (cC _)) (d6 _) i1 (by simp only[aS,aZ];omega) (by simp only[aS,aZ];omega) (fun b' hb'=>?_)
     rw[show acc.map Tm.av++ [(Tm.mk 2 1 ⟨#[]⟩ []).av]=(acc++ [Tm.mk 2 1 ⟨#[]⟩ []]).map Tm.av by simp] at hb' ⊢
     obtain⟨g1,g2,g3⟩:=oL hb'
     simp only[fL,eR] at g1 g3
     simp -implicitDefEqProofs only[aK,fJ,m6,aA,seval,mP]
     refine⟨iF g3,?_⟩
     simp -implicitDefEqProofs only[g3,g1,aA,seval]
     refine⟨(b',acc++ [Tm.mk 2 1 ⟨#[]⟩ []]),by simp only[dM,aS,aZ];omega,g2,aO.mk (by simp -implicitDefEqProofs only[aA,seval])⟩
   · simp -implicitDefEqProofs only[aK,hbo,fJ,aA,seval,mP]
     have hbo:=eN i1
     have h4o:=gS i1 (x:=b4) (by rw[hW4];simp) h54.symm
     rw[hW4] at h4o
     simp -implicitDefEqProofs only[h4o,aA,seval]
     obtain⟨g5,g6⟩:=kE (o:=.cells [.int .i64 (k),.int .i64 (n),.str (s),bD 4 b ((acc).map Tm.av)]) i1 (show((st.aC b4 (.cells [.int .i64 0,.int .i64 0,.str ⟨#[]⟩,.fslice []])).aC c (cD bs (p+1))) b4≠none by rw[hW4];simp) h54.symm
     refine⟨b,_,_,g5,g6,iU _,⟨4,d6 _⟩,st.aC c (cD bs (p+1)),hdr _ _ _,p+1,by omega,by omega,rfl,.mk (k) (n) (s) (acc),?_⟩
     simp only[fZ,bA,aW,eG,iY,iP,aV]
 simp -implicitDefEqProofs only[aA,seval]
 refine aQ (fun h0=>?_) (fun h0=>?_)
 · simp -implicitDefEqProofs only[aA,seval]
   have hW5:∀Z,((st.aC b4 (.cells [.int .i64 0,.int .i64 0,.str ⟨#[]⟩,.fslice []])).aC c (cD bs (p+1))).aC b5 Z b4=some (.cells [.int .i64 0,.int .i64 0,.str ⟨#[]⟩,.fslice []]):=fun Z=>by rw[aB.aL _ _ h54.symm,hW4]
   refine eP (σ:=Tm) [1000000,5] [4,5] (List.range 30) (fun _ _=>True) (fun i _=>[(6,.int .i64 i)]) (fun _ u=>((st.aC b4 (.cells [.int .i64 0,.int .i64 0,.str ⟨#[]⟩,.fslice []])).aC c (cD bs (p+1))).aC b5 (.cells u.av.cells)) (by decide +kernel)
    ⟨.mk k n s ts,trivial,?_⟩ (fun i x u hx hlt bV AB _=>?_) (fun u hge _=>?_)
   · rw[aV]
     exact(aZ1 i1 (iU _) ⟨4,d6 _⟩).trans (fX.kC (by simp -implicitDefEqProofs only[aA,↓aU,seval]))
   · rw[I3] at hlt
     have aX8:decide ((i:Int)<30)=true:=by simp;omega
     have hw:=bO (n:=(i:Int)+1)
     simp -implicitDefEqProofs only[aX8,bY,aT,aJ,cG,eO (bY _),eK (aT _),aA,seval,mP]
     refine(sB ⟨#[115]⟩ [u] (by simp) _).to ?_
     simp -implicitDefEqProofs only[dC,aK,hw,bY,cC,aA,seval,mP]
     exact⟨.mk 3 0 ⟨#[115]⟩ [u],aO.mk (by simp -implicitDefEqProofs only[aA,seval])⟩
   · have aXV:decide ((29:Int)+1<30)=false:=rfl
     have h4o:=hW5 (.cells u.av.cells)
     simp -implicitDefEqProofs only[I3,aK,h4o,bY,cC,eO (bY _),eK (aT _),aA,↓aU,seval,mP]
     exact⟨0,[],_,rfl,by simp,by simp,⟨4,by simp⟩,st.aC c (cD bs (p+1)),hdr _ _ _,p+1,by omega,by omega,rfl,u,Tm.vQ u 0⟩
 · simp -implicitDefEqProofs only[aA,seval,mP]
   have hbo:=eN i1
   have h4o:=gS i1 (x:=b4) (by rw[hW4];simp) h54.symm
   rw[hW4] at h4o
   simp -implicitDefEqProofs only[aK,hbo,h4o,fJ,aA,seval,mP]
   obtain⟨g5,g6⟩:=kE (o:=.cells [.int .i64 (k),.int .i64 (n),.str (s),bD 4 b ((ts).map Tm.av)]) i1 (show((st.aC b4 (.cells [.int .i64 0,.int .i64 0,.str ⟨#[]⟩,.fslice []])).aC c (cD bs (p+1))) b4≠none by rw[hW4];simp) h54.symm
   refine⟨b,_,_,g5,g6,iU _,⟨4,d6 _⟩,st.aC c (cD bs (p+1)),hdr _ _ _,p+1,by omega,by omega,rfl,.mk (k) (n) (s) (ts),?_⟩
   simp only[fZ,bA,aW,eG,iY,iP,aV]
abbrev aM5:=zi tI_3 (zi zI_3 (zi aX (zi tI_29 (zi zI_29 (zi gW (zi kA (zi kB (zi lL (zi tI_84 (zi zI_84 (zi kV (zi kW kU))))))))))))
theorem aRF(l:List Cl)(g:FuncId)(dP:List AV)(p:Cl→Bool)(st:aB)(hc:∀x∈l,aD prog g ([bX x]++dP) st (fun r st'=>r=.bool (p x)∧st'=st)) :
 aD prog 215 [.slice (l.map bX),.func g dP] st (fun r st'=>∃j:Int,r=.int .i64 j∧decide (0≤j)=l.any p∧st'=st):=by
 refine wF [] 2 func215 ntmps215 rfl rfl ?_
 simp only[eC,AV.fits,eF,aF]
 intro ⟨hl,_⟩
 simp -implicitDefEqProofs only[aF,aA,seval,aM5]
 refine eP (σ:=Unit) [] [0,1,7] l (fun i _=>(l.drop i).any p=l.any p) (fun i _=>[(8,.int .i64 i)]) (fun _ _=>st) (by decide +kernel) ⟨(),rfl,aO.mk (by simp -implicitDefEqProofs only[aA,↓aU,seval])⟩ (fun i x _ hx hlt bV hdr hinv=>?_) (fun _ hge hinv=>?_)
 case refine_2=>
  simp -implicitDefEqProofs only[hge,aA,seval]
  rw[kK] at hinv
  exact⟨-1,rfl,by rw[←hinv];try rfl⟩
 rw[hdr,BQ] at hinv
 have hw:=bO (n:=(i:Int)+1)
 simp -implicitDefEqProofs only[bV,bM (av:=bX) gW hx (nO x),CP,nO,aA,seval,aM5]
 refine(hc x (cP hx)).to ?_
 simp -implicitDefEqProofs only[aA,seval]
 refine aQ (fun h=>?_) (fun h=>?_)
 · simp -implicitDefEqProofs only[aA,seval]
   exact⟨i,rfl,by rw[←hinv,h];simp⟩
 · rw[h,oV] at hinv
   simp -implicitDefEqProofs only[aA,seval]
   exact⟨(),hinv,aO.mk (by simp -implicitDefEqProofs only[hw,aA,seval])⟩
theorem V0(l:List Cl)(g:FuncId)(dP:List AV)(p:Cl→Bool)(st:aB)(hc:∀x∈l,aD prog g ([bX x]++dP) st (fun r st'=>r=.bool (p x)∧st'=st)) :
 aD prog 140 [.slice (l.map bX),.func g dP] st (fun r st'=>r=.bool (l.any p)∧st'=st):=by
 refine wF [] 2 func140 ntmps140 rfl rfl ?_
 intro _
 simp -implicitDefEqProofs only[aA,seval]
 refine(aRF l g dP p st hc).mono ?_
 rintro _ _ ⟨j,rfl,hj,rfl⟩
 simp -implicitDefEqProofs only[hj,aA,seval]
abbrev ST:=zi tI_4 (zi zI_4 (zi cE (zi tI_31 (zi zI_31 (zi aN (zi bG (zi bH (zi b9 (zi tI_66 (zi zI_66 (zi bQ (zi bR (zi bS (zi bT (zi bP (zi tI_84 (zi zI_84 (zi kV (zi kW kU)))))))))))))))))))
theorem aR3(c:Cl)(st:aB):aD prog 142 [bX c] st (fun r st'=>r=.bool (j9 c)∧st'=st):=by
 obtain⟨⟨k,n,s,ts⟩,b⟩:=c
 have hv:=fun st=>FR (.mk k n s ts) st
 have hp:=fun st=>OM k n s ts st
 simp only[aV] at hv hp
 have hg:=fun st=>WC b st
 simp only[fY,j9,HF]
 simp only[kF] at hg
 generalize (Tm.mk k n s ts).valid=v at *
 refine wF [1000000] 1 func142 ntmps142 rfl rfl ?_
 intro _
 simp -implicitDefEqProofs only[aA,seval,ST]
 refine(hv _).to ?_
 cases v with
 | false=>simp -implicitDefEqProofs only[gK,aA,seval]
 | true=>
  simp -implicitDefEqProofs only[fR,eV,aA,seval,ST]
  refine(hp _).to ?_
  cases hpl:lH k s (ts.length:Int) with
  | false=>simp -implicitDefEqProofs only[gK,aA,seval]
  | true=>
   simp -implicitDefEqProofs only[fR,eV,aA,seval,ST]
   refine(hg _).to ?_
   simp -implicitDefEqProofs only[aA,seval]
abbrev a3F:=zi tI_4 (zi zI_4 (zi cE (zi tI_84 (zi zI_84 (zi kV (zi kW kU))))))
theorem aRN(c:Cl)(st:aB):aD prog 141 [bX c] st (fun r st'=>r=.bool (!j9 c)∧st'=st):=by
 refine wF [1000000] 1 func141 ntmps141 rfl rfl ?_
 intro _
 simp -implicitDefEqProofs only[J3,CP,nO,aA,seval,a3F]
 refine(aR3 c st).to ?_
 simp -implicitDefEqProofs only[aA,seval]
abbrev a3G:=zi tI_3 (zi zI_3 (zi aX (zi tI_4 (zi zI_4 (zi cE (zi tI_29 (zi zI_29 (zi gW (zi kA (zi kB lL))))))))))
theorem OK(p:List Cl)(st:aB):aD prog 58 [.slice (p.map bX)] st (fun r st'=>r=.bool (l7 p)∧st'=st):=by
 refine wF [1000000] 1 func58 ntmps58 rfl rfl ?_
 simp only[eC,AV.fits,eF,aF]
 intro _
 unfold l7
 simp -implicitDefEqProofs only[aF,aA,seval,a3G]
 refine cV (fun h=>?_) (fun h=>?_)
 · simp only[bJ] at h
   rw[show decide (p.length≤20)=true by simp;omega]
   simp -implicitDefEqProofs only[h,aA,seval]
   refine(V0 p _ [] (fun t=> !j9 t) st fun x _=>aRN x st).to ?_
   simp -implicitDefEqProofs only[CC,aA,seval]
 · simp only[kI,dJ] at h
   rw[show decide (p.length≤20)=false by simp;omega]
   simp -implicitDefEqProofs only[h,aA,seval]
   rfl
abbrev EB:=zi tI_3 (zi zI_3 (zi aX (zi tI_4 (zi zI_4 (zi cE (zi tI_31 (zi zI_31 (zi aN (zi bG (zi bH (zi b9 (zi tI_66 (zi zI_66 (zi bQ (zi bR (zi bS (zi bT (zi bP (zi tI_84 (zi zI_84 (zi kV (zi kW kU))))))))))))))))))))))
theorem XE(c:Cl)(st:aB):aD prog 143 [bX c] st (fun r st'=>r=.bool (j9 c)∧st'=st):=by
 obtain⟨⟨k,n,s,ts⟩,l⟩:=c
 have hv:=fun st=>OW (.mk k n s ts) st
 have hp:=fun st=>WX k n s ts st
 simp only[aV] at hv hp
 simp only[fY,j9,HF]
 generalize (Tm.mk k n s ts).valid=v at *
 refine wF [1000000] 1 func143 ntmps143 rfl rfl ?_
 simp only[eC,AV.fits,eF,aF]
 intro ⟨_,_,_,_,hl,_⟩
 have jY:l.all Tm.goal=true∨l.length>6→(decide ((l.length:Int)≤6)&&v&&lH k s (ts.length:Int))=(v&&lH k s (ts.length:Int)&&(decide (l.length≤6)&&l.all Tm.goal)):=fun h=>by
  by_cases h6:l.length≤6
  · have hg:l.all Tm.goal=true:=h.resolve_right (by omega)
    rw[hg,show decide ((l.length:Int)≤6)=true from gM (by omega),show decide (l.length≤6)=true from gM h6]
    simp
  · rw[show decide ((l.length:Int)≤6)=false from fS (by omega),show decide (l.length≤6)=false from fS h6]
    simp
 simp -implicitDefEqProofs only[aA,seval,EB]
 refine eP (σ:=Unit) [1000000] [1] l (fun i _=>i≤7∧(l.take i).all Tm.goal=true) (fun i _=>[(2,.bool false),(3,.int .i64 i)]) (fun _ _=>st) (by decide +kernel) ⟨(),⟨by omega,by simp⟩,aO.mk (by simp -implicitDefEqProofs only[aA,↓aU,seval])⟩ (fun i x _ hx hlt bV hdr hinv=>?_) (fun _ hge hinv=>?_)
 · obtain⟨i1,i2⟩:=hinv
   have hw:=bO (n:=(i:Int)+1)
   by_cases h7:i≤6
   · have h7':decide ((i:Int)≤6)=true:=gM (by omega)
     have hat:=bM (av:=Tm.av) aN hx (aJ x)
     simp -implicitDefEqProofs only[bV,bU,fR,aF,h7',hat,aT,aJ,aA,seval,EB]
     refine(XF x st).to ?_
     simp -implicitDefEqProofs only[aA,seval]
     refine aQ (fun h2=>?_) (fun h2=>?_)
     · simp only[kQ] at h2
       simp -implicitDefEqProofs only[aA,seval]
       have:l.all Tm.goal=false:=vA hx h2
       rw[this];simp
     · simp only[qR] at h2
       simp -implicitDefEqProofs only[aA,seval]
       refine⟨(),⟨by omega,?_⟩,aO.mk (by simp -implicitDefEqProofs only[hw,aA,seval])⟩
       rw[fG,hx,BP,i2]
       simp [h2]
   · have h7':decide ((i:Int)≤6)=false:=fS (by omega)
     have h8:decide ((l.length:Int)≤6)=false:=fS (by omega)
     rw[←jY (.inr (by omega)),h8]
     simp -implicitDefEqProofs only[bV,bU,fR,h8,gK,aF,h7',aA,seval,EB]
 · obtain⟨i1,i2⟩:=hinv
   rw[eS] at i2
   rw[←jY (.inl i2)]
   cases h8:decide ((l.length:Int)≤6) with
   | false=>
    simp -implicitDefEqProofs only[hge,aF,h8,gK,aA,seval,EB]
   | true=>
    simp -implicitDefEqProofs only[hge,fR,aF,h8,eV,aA,seval,EB]
    refine(hv _).to ?_
    cases v with
    | false=>simp -implicitDefEqProofs only[gK,aA,seval]
    | true=>
     simp -implicitDefEqProofs only[fR,eV,aA,seval,EB]
     refine(hp _).to ?_
     simp -implicitDefEqProofs only[aA,seval]
abbrev SU:=zi tI_3 (zi zI_3 (zi aX (zi tI_4 (zi zI_4 (zi cE (zi tI_29 (zi zI_29 (zi gW (zi kA (zi kB (zi lL (zi tI_84 (zi zI_84 (zi kV (zi kW kU)))))))))))))))
theorem XG(l:List Cl)(st:aB):aD prog 59 [.slice (l.map bX)] st (fun r st'=>r=.bool (l7 l)∧st'=st):=by
 refine wF [1000000] 1 func59 ntmps59 rfl rfl ?_
 simp only[eC,AV.fits,eF,aF]
 intro ⟨hl,_⟩
 simp -implicitDefEqProofs only[aA,seval]
 refine eP (σ:=Unit) [1000000] [0] l (fun i _=>i≤21∧(l.take i).all j9=true) (fun i _=>[(2,.bool false),(3,.int .i64 i)]) (fun _ _=>st) (by decide +kernel) ⟨(),⟨by omega,by simp⟩,aO.mk (by simp -implicitDefEqProofs only[aA,↓aU,seval])⟩ (fun i x _ hx hlt bV hdr hinv=>?_) (fun _ hge hinv=>?_)
 · obtain⟨i1,i2⟩:=hinv
   have hw:=bO (n:=(i:Int)+1)
   by_cases h7:i≤20
   · have h7':decide ((i:Int)≤20)=true:=gM (by omega)
     have hat:=bM (av:=bX) gW hx (nO x)
     simp -implicitDefEqProofs only[bV,bU,fR,aF,h7',hat,CP,nO,aA,seval,SU]
     refine(XE x st).to ?_
     simp -implicitDefEqProofs only[aA,seval]
     refine aQ (fun h2=>?_) (fun h2=>?_)
     · simp only[kQ] at h2
       simp -implicitDefEqProofs only[aA,seval]
       have:l.all j9=false:=vA hx h2
       simp only[l7,this,tJ]
     · simp only[qR] at h2
       simp -implicitDefEqProofs only[aA,seval]
       refine⟨(),⟨by omega,?_⟩,aO.mk (by simp -implicitDefEqProofs only[hw,aA,seval])⟩
       rw[fG,hx,BP,i2]
       simp [h2]
   · have h7':decide ((i:Int)≤20)=false:=fS (by omega)
     have h8:decide ((l.length:Int)≤20)=false:=fS (by omega)
     have h9:decide (l.length≤20)=false:=fS (by omega)
     simp -implicitDefEqProofs only[bV,bU,fR,aF,h7',h8,l7,h9,gK,aA,seval,SU]
 · obtain⟨i1,i2⟩:=hinv
   rw[eS] at i2
   simp -implicitDefEqProofs only[hge,aF,aA,seval,SU]
   simp only[l7,i2,yR,AV.bool.injEq,zQ]
   omega
end Go.AW
namespace Go.AW

def dR:AV→List Nat
 | .mslice b _ _ _=>[b]
 | _=>[]
def jC(st:aB)(w:Nat)(q:AV)(l:List AV):Prop:=
 (q=.fslice []∧l= [])∨∃b cs,q=.mslice b 0 l.length w∧st b=Option.some (.cells cs)∧cs.take (l.length*w)=l.flatMap AV.cells∧l.length*w≤cs.length
theorem jC.shape{st:aB}{w:Nat}{q:AV}{l:List AV}(h:jC st w q l):q.isAgg=false∧q.width=1∧q.cF=false∧q.cells= [q]∧q.storable=true:=by
 rcases h with ⟨rfl,_⟩ | ⟨b',cs,rfl,_⟩<;>exact⟨rfl,rfl,rfl,rfl,rfl⟩
theorem jC.a8{st st':aB}{w:Nat}{q:AV}{l:List AV}(h:jC st w q l)(hk:∀b∈dR q,st' b=st b):jC st' w q l:=by
 rcases h with h | ⟨b,cs,rfl,hb,h2⟩
 · exact .inl h
 · exact .inr ⟨b,cs,rfl,by rw[hk b (by simp [dR])];exact hb,h2⟩
theorem jC.some{st:aB}{w:Nat}{q:AV}{l:List AV}(h:jC st w q l):∀b∈dR q,∃cs,st b=Option.some (.cells cs):=by
 intro b hb
 rcases h with ⟨rfl,_⟩ | ⟨b',cs,rfl,hb',_⟩
 · simp [dR] at hb
 · simp only[dR,cX,dN,dV] at hb;subst hb;exact⟨cs,hb'⟩
theorem jC.len{P:Program}{t e:TypeId}{st:aB}{w:Nat}{q:AV}{l:List AV}(h:jC st w q l)(hu:P.underlying t=Option.some (.slice e)):n9 P t q=Option.some (.int .i64 (l.length:Int)):=by
 rcases h with ⟨rfl,rfl⟩ | ⟨b,cs,rfl,_⟩<;>simp only[n9,hu,aZ]
theorem jC.append{P:Program}{t:TypeId}{ag:Bool}{bytes w:Nat}{zs:List AV}{st:aB}{q:AV}{l:List AV}{x:AV}{K:AV→aB→Prop}(hI:eI P t=Option.some (ag,w))(hB:eB P t=Option.some bytes)(hZ:eZ P t=Option.some zs)(hz:zs.length=w)(hb8:bytes≤4096)
 (h:jC st w q l) (hx:x.width=w) (hxs:x.cells.all AV.storable=true) (hl:l.length≤1073741824)
 (hK:∀q' st',jC st' w q' (l++ [x])→(∀y,y∉dR q→y∉dR q'→st' y=st y)→(∀y∈dR q',y∈dR q∨st y=none)→K q' st'):j7 P t st q (.fslice [x]) K:=by
 have fD:vB w [x]:=by intro e he;simp only[cX,dN,dV] at he;subst he;exact⟨hx,hxs⟩
 have GS:(l.length+1)*bytes≤140737488355328:=by
  have:=Nat.mul_le_mul (show l.length+1≤1073741825 by omega) hb8
  omega
 have hxc:x.cells.length=w:=by rw[vG,hx]
 unfold j7
 simp only[hI,hB,hZ,zC]
 refine⟨hz,fD,?_⟩
 rcases h with ⟨rfl,rfl⟩ | ⟨b,cs,rfl,hb,hcs,hcl⟩
 · simp only[aZ,aS,hH] at GS ⊢
   refine⟨by omega,by omega,by simp,fun h=>by simp at h,fun _ b hb=>?_⟩
   refine hK _ _ (.inr ⟨b,x.cells,rfl,by rw[aB.aP];simp,?_,?_⟩) (fun y _ hy=>?_) (fun y hy=>?_)
   · simp only[eR,aS,aZ,hH,Nat.one_mul,rW,List.flatMap_nil,g9]
     rw[←hxc,eS]
   · simp only[eR,aS,aZ,hH,Nat.one_mul]
     omega
   · simp only[dR,cX,dN,dV] at hy
     rw[aB.aL _ _ hy]
   · simp only[dR,cX,dN,dV] at hy
     subst hy;exact .inr hb
 · simp only[aS,aZ,hH,hb]
   have mM:cs.take (l.length*w)++ [x].flatMap AV.cells=(l++ [x]).flatMap AV.cells:=by rw[hcs];simp
   have hlen:((l++ [x]).flatMap AV.cells).length=(l++ [x]).length*w:=by
    rw[←mM,dM,dS,lP hcl]
    simp only[rW,List.flatMap_nil,g9,hxc,dM,aS,aZ]
    rw[w4];omega
   refine⟨trivial,GS,by omega,hcl,?_,fun b' hb'=>?_⟩
   · rw[mM]
     refine hK _ _ (.inr ⟨b,_,by simp,aB.aP _ _ _,by rw[lO (by rw[hlen];exact c7 _)],by rw[hlen];exact c7 _⟩) (fun y hy _=>?_) (fun y hy=>.inl hy)
     simp only[dR,cX,dN,dV] at hy
     rw[aB.aL _ _ hy]
   · rw[mM]
     refine hK _ _ (.inr ⟨b',_,by simp,aB.aP _ _ _,by rw[lO (by rw[hlen];exact c7 _)],by rw[hlen];exact c7 _⟩) (fun y hy hy'=>?_) (fun y hy=>?_)
     · simp only[dR,cX,dN,dV] at hy hy'
       rw[aB.aL _ _ hy']
       simp [aB.erase,hy]
     · simp only[dR,cX,dN,dV] at hy
       subst hy;exact .inr hb'
def xL(k:Nat):AV→AV
 | .mslice b o _ w=>.mslice b o k w
 | a=>a
theorem jC.take{st:aB}{w:Nat}{q:AV}{l:List AV}(h:jC st w q l){k:Nat}(hk:k≤l.length)(hw:∀e∈l,e.width=w):jC st w (xL k q) (l.take k):=by
 rcases h with ⟨rfl,rfl⟩ | ⟨b,cs,rfl,hb,hcs,hcl⟩
 · exact .inl ⟨rfl,by simp⟩
 · have hlk:(l.take k).length=k:=by rw[dS];omega
   have h1:k*w≤l.length*w:=rZ w hk
   refine .inr ⟨b,cs,by rw[hlk];try rfl,hb,?_,by rw[hlk];omega⟩
   rw[hlk]
   have h2:cs.take (k*w)=(cs.take (l.length*w)).take (k*w):=by rw[wZ,lP h1]
   rw[h2,hcs]
   have h3:l.flatMap AV.cells=(l.take k).flatMap AV.cells++(l.drop k).flatMap AV.cells:=by rw[←yV,rY]
   have h4:((l.take k).flatMap AV.cells).length=k*w:=by rw[pD (n:=w) (es:=l.take k) (fun e he=>hw e (mC he)),hlk]
   rw[h3,List.take_left' h4]
theorem DZ(k:Nat)(q:AV):dR (xL k q)=dR q:=by cases q<;>rfl
theorem jC.at{st:aB}{w:Nat}{q:AV}{l:List AV}(h:jC st w q l)(hw:∀e∈l,e.width=w){i:Nat}{e:AV}(he:l[i]?=.some e) :
 ∃b cs,q=.mslice b 0 l.length w∧st b=.some (.cells cs)∧i*w+w≤cs.length∧(cs.drop (i*w)).take w=e.cells:=by
 obtain⟨hi,hei⟩:=gP.1 he
 rcases h with ⟨rfl,rfl⟩ | ⟨b,cs,rfl,hb,hcs,hcl⟩
 · simp at he
 · have h1:(i+1)*w≤l.length*w:=rZ w hi
   rw[w4,Nat.one_mul] at h1
   refine⟨b,cs,rfl,hb,by omega,?_⟩
   have h2:l=l.take i++e::l.drop (i+1):=by rw[←hei,←qS hi,rY]
   have hA:((l.take i).flatMap AV.cells).length=i*w:=by
    rw[pD (n:=w) (es:=l.take i) (fun e he=>hw e (mC he)),dS,lP (by omega)]
   have hE:e.cells.length=w:=by rw[vG];exact hw e (cP he)
   have h3:(cs.drop (i*w)).take w=((cs.take (l.length*w)).drop (i*w)).take w:=by
    rw[List.drop_take,wZ,lP (by omega)]
   rw[h3,hcs,h2]
   simp only[yV,rW]
   rw[List.drop_left' hA,List.take_left' hE]
theorem dA.fz{h:bK}{st:aB}{b:Nat}{es:List AV}(S:cY h st)(hb:st b=some (.cells (es.flatMap AV.cells)))(hj:∀e∈es,e.cF=false)(hE:gZ es):∀ {us:List AV} {vs:List Value},dA h st us vs→dA h (st.erase b) (lG b es us) vs
 | [],vs,x=>by simp only[dA] at x;simp [lG,dA,x]
 | a::us,vs,x=>by
  simp only[dA] at x
  obtain⟨v,r,rfl,x1,x2⟩:=x
  simp only[lG,dA]
  exact⟨v,r,rfl,x1.fz S hb hj hE,dA.fz S hb hj hE x2⟩
theorem cB.unerase{h h':bK}{st st':aB}{b:Nat}(x:cB h (st.erase b) h' st'):cB h st h' st':=
 ⟨x.size,fun c hc e=>x.a8 c hc (aB.aVJ st e),x.shape⟩
theorem aD.aWQ{P:Program}{g:FuncId}{args:List AV}{st:aB}{Q:AV→aB→Prop}(b:Nat)(es:List AV)(hb:st b=some (.cells (es.flatMap AV.cells)))(hj:∀e∈es,e.cF=false)(hE:gZ es)(x:aD P g (lG b es args) (st.erase b) Q):aD P g args st Q:=
 ⟨x.1,fun w vs S V=>(x.2 w vs ((jI st b).HT S) (V.fz S hb hj hE)).mono fun _ _ ⟨v,r,st',e,a,b',c,d,q⟩=>⟨v,r,st',e,a,b',c.unerase,d,q⟩⟩
def Lit(st:aB)(w:Nat)(l:List AV)(q:AV)(s:aB):Prop:=(q=.fslice l∧s=st)∨∃b,st b=none∧q=.mslice b 0 l.length w∧s=st.aC b (.cells (l.flatMap AV.cells))
theorem aQB{P:Program}{t:TypeId}{ag:Bool}{w bytes:Nat}{zs:List AV}{st:aB}{es xs:List AV}{x:AV}{K:AV→aB→Prop}(hI:eI P t=some (ag,w))(hB:eB P t=some bytes)(hZ:eZ P t=some zs)(hz:zs.length=w)(hx:x=.slice xs∨x=.fslice xs)(hes:∀e∈es,e.width=w)(fD:vB w xs)(hl:(es.length+xs.length)*bytes≤140737488355328)(hl2:es.length+xs.length≤9223372036854775807)
 (hK:∀q s,Lit st w (es++xs) q s→K q s):j7 P t st (.fslice es) x K:=by
 unfold j7
 have he:zC x=some xs:=by rcases hx with rfl | rfl<;>rfl
 simp only[hI,hB,hZ,he]
 refine⟨hz,fD,hl,hl2,hes,fun h=>?_,fun _ b hb=>?_⟩
 · subst h
   exact hK _ _ (.inl ⟨by rw[g9],rfl⟩)
 · exact hK _ _ (.inr ⟨b,hb,by rw[dM],rfl⟩)
theorem Lit.call{P:Program}{g:FuncId}{st s:aB}{w:Nat}{l:List AV}{q:AV}{post:List AV}{Q:AV→aB→Prop}(h:Lit st w l q s)(hj:∀e∈l,e.cF=false)(hw:∀e∈l,e.width=w)(hp:∀b,lG b l post=post)(x:aD P g (.slice l::post) st Q):aD P g (q::post) s Q:=by
 rcases h with ⟨rfl,rfl⟩ | ⟨b,hb,rfl,rfl⟩
 · refine aD.args x fun hp vs S V=>?_
   simp only[dA] at V ⊢
   obtain⟨v,r,rfl,V1,V2⟩:=V
   exact⟨v,r,rfl,V1.GN,V2⟩
 · refine aD.aWQ b l (aB.aP _ _ _) hj ⟨w,hw⟩ ?_
   rw[aB.vO st b _ hb]
   have:lG b l (.mslice b 0 l.length w::post)=.slice l::post:=by
    show(AV.mslice b 0 l.length w).fz b l::lG b l post=_
    rw[hp]
    simp [AV.fz]
   rw[this]
   exact x
end Go.AW
namespace Go.AW
open Go.Proofs.Tryz
def nv(i:Nat):AV:=.int .i64 (i:Int)
def eU:RG→AV
 | ⟨.mk k n s ts,a8⟩=>.agg [.int .i64 k,.int .i64 n,.str s,.slice (ts.map Tm.av),.int .i64 (a8:Int)]
theorem A5(k n:Int)(s:ByteArray)(ts:List Tm)(a8:Nat):eU ⟨.mk k n s ts,a8⟩=.agg [.int .i64 k,.int .i64 n,.str s,.slice (ts.map Tm.av),.int .i64 (a8:Int)]:=rfl
theorem a13(g:RG):eU g=.agg (g.t.av.cells++ [.int .i64 (g.a8:Int)]):=by obtain⟨⟨k,n,s,ts⟩,a8⟩:=g;rw[aV];try rfl
theorem D6(g:RG):(eU g).width=5:=by obtain⟨⟨k,n,s,ts⟩,a8⟩:=g;rfl
theorem a14(g:RG):(eU g).cells.all AV.storable=true:=by obtain⟨⟨k,n,s,ts⟩,a8⟩:=g;rfl
theorem a12(g:RG):(eU g).cF=false:=by obtain⟨⟨k,n,s,ts⟩,a8⟩:=g;rfl
def fV:RC→AV
 | ⟨.mk k n s ts,rest,left,σ,N⟩=>.agg [.int .i64 k,.int .i64 n,.str s,.slice (ts.map Tm.av),.slice (rest.map eU),.slice (left.map nv),.slice (c8 N σ)]
theorem LV(g:RC):(fV g).width=7:=by obtain⟨⟨k,n,s,ts⟩,_,_,_,_⟩:=g;rfl
theorem a1Q(g:RC):(fV g).cells.all AV.storable=true:=by obtain⟨⟨k,n,s,ts⟩,_,_,_,_⟩:=g;rfl
theorem a1P(g:RC):(fV g).cF=false:=by obtain⟨⟨k,n,s,ts⟩,_,_,_,_⟩:=g;rfl
def oQ(s:RS):AV:=.agg [.slice (s.goals.map eU),.slice (c8 s.N s.σ),.slice (s.chs.map fV)]
abbrev SY:=zi tI_3 (zi zI_3 (zi aX (zi tI_4 (zi zI_4 (zi cE (zi tI_31 (zi zI_31 (zi aN (zi bG (zi bH (zi b9 (zi tI_66 (zi zI_66 (zi bQ (zi bR (zi bS (zi bT bP)))))))))))))))))
theorem W1:∀(t:Tm) (d:Nat) (st:aB),d≤1000→t.small=true→aD prog 303 [t.av,.int .i64 (d:Int)] st (fun r st'=>r=.bool (t.flat d)∧st'=st)
 | .mk k n s ts,d,st,hd,hsm=>by
  obtain⟨hlen,pI⟩:=Tm.oR hsm
  have IH:=fun(x:Tm) (hx:x∈ts) d st h=>W1 x d st h (pI x hx)
  simp only[aV]
  refine wF [1000000] 2 func303 ntmps303 rfl rfl ?_
  intro _
  simp -implicitDefEqProofs only[aA,seval,SY]
  refine aQ (fun h=>?_) (fun h=>?_)
  · simp only[bJ] at h
    obtain rfl:d=0:=by omega
    simp -implicitDefEqProofs only[aA,↓aU,seval]
    rw[Tm.CX]
  simp only[dJ] at h
  obtain⟨e,rfl⟩:∃e,d=e+1:=⟨d - 1,by omega⟩
  rw[Tm.rC]
  have hw1:IntKind.i64.wrap ((e:Int)+1 - 1)=(e:Int):=by rw[wrap64 (by omega) (by omega)];omega
  simp -implicitDefEqProofs only[aA,seval]
  refine eP (σ:=Unit) [1000000] [1,2] ts (fun i _=>((ts.drop i).all fun t=>t.flat e)=(ts.all fun t=>t.flat e)) (fun i _=>[(5,.int .i64 i)]) (fun _ _=>st) (by decide +kernel) ⟨(),rfl,aO.mk (by simp -implicitDefEqProofs only[aA,↓aU,seval])⟩ (fun i x _ hx hlt bV hdr hinv=>?_) (fun _ hge hinv=>?_)
  case refine_2=>
   simp -implicitDefEqProofs only[hge,aF,aA,seval,SY]
   rw[←hinv,kK]
   try rfl
  have hw:=bO (n:=(i:Int)+1)
  rw[hdr,kJ] at hinv
  simp -implicitDefEqProofs only[bV,aF,bM (av:=Tm.av) aN hx (aJ x),aT,aJ,hw1,aA,seval,SY]
  refine(IH x (cP hx) e _ (by omega)).to ?_
  simp -implicitDefEqProofs only[aA,seval]
  refine aQ (fun h2=>?_) (fun h2=>?_)
  · simp -implicitDefEqProofs only[aA,seval]
    simp only[kQ] at h2
    rw[←hinv,h2]
    try rfl
  · simp only[qR] at h2
    rw[h2,eV] at hinv
    simp -implicitDefEqProofs only[aA,seval]
    exact⟨(),hinv,aO.mk (by simp -implicitDefEqProofs only[hw,aA,seval])⟩
termination_by t=>SizeOf.sizeOf t
decreasing_by have:=List.sizeOf_lt_of_mem hx;simp only[Tm.mk.sizeOf_spec];omega
abbrev H0:=zi tI_3 (zi zI_3 (zi aX (zi tI_4 (zi zI_4 (zi cE (zi tI_31 (zi zI_31 (zi aN (zi bG (zi bH (zi b9 (zi tI_66 (zi zI_66 (zi bQ (zi bR (zi bS (zi bT bP)))))))))))))))))
theorem W3{N:Nat}{σ:Sub}(hg:cO σ)(ho:cW (bB N) σ)(t:Tm)(ht:bB N t)(st:aB) :
 aD prog 238 [t.av,.slice (c8 N σ)] st (fun r st'=>st'=st∧∃x:Tm,r=.tup [x.av,.bool (eL (t.aG (rs σ)))]∧(eL (t.aG (rs σ))=true→x=t.aG (rs σ))):=by
 obtain⟨rk,B,G⟩:=hg.rs
 have QG:=fun st=>VX G ho 120 t st (c7 _) ht
 have hV:=G.RL ho.k0 ht.1
 refine aD.mK (aD.soft ?_)
 refine wF [1000000] 2 func238 ntmps238 rfl rfl ?_
 intro _
 simp -implicitDefEqProofs only[aT,aJ,cG,aA,seval,H0]
 intro b4 h4
 refine(QG _).mono ?_
 rintro _ _ ⟨rfl,x,left,rfl,h1,h2⟩
 simp -implicitDefEqProofs only[aJ,cC,cG,aA,↓aU,seval,H0]
 refine wP [(1,1),(2,1),(3,1),(4,2),(0,1),(5,0),(6,1),(7,0),(8,1)] [1,2,3,4,0,6,8] mixed ?_
 simp -implicitDefEqProofs only[aA,seval]
 refine cV (fun h=>?_) (fun h=>?_)
 · have h3:0≤left:=by simpa using h
   have h4:(t.aG (rs σ)).nodes≤120:=yU fun h5=>by rw[aE h5] at h2;omega
   rw[aH h4] at h2
   obtain⟨rfl,_⟩:=h2
   have h5:eL (t.aG (rs σ))=(t.aG (rs σ)).flat 30:=by unfold eL;simp [h4]
   simp -implicitDefEqProofs only[h,aT,aJ,aA,seval,H0]
   refine(W1 _ 30 _ (by omega) hV.small).to ?_
   simp -implicitDefEqProofs only[aK,cC,cG,bY,aA,seval,H0]
   refine⟨st,(aM.refl _).aC ‹_›,rfl,_,by simp only[k7,sZ,Tm.soft,bA,aW];rw[h5],fun _=>rfl⟩
 · have hx0:=trivial
   have h3:left<0:=by simpa using h
   have h4:¬(t.aG (rs σ)).nodes≤120:=fun h5=>by rw[aH h5] at h2;omega
   have h5:eL (t.aG (rs σ))=false:=by unfold eL;simp [h4]
   simp -implicitDefEqProofs only[h,aK,aT,aJ,cC,cG,bY,eO (bY x),eK (aT x),aA,seval,H0]
   refine⟨st,(aM.refl _).aC ‹_›,rfl,x,by simp only[k7,sZ,Tm.soft,bA,aW];rw[h5],fun h6=>?_⟩
   rw[h5] at h6;cases h6
theorem aWN(c:Cl):GM c=(bL (c.1::c.2) []).foldl (fun n v=>if n≤v then v+1 else n) 0:=rfl
abbrev L8:=zi tI_3 (zi zI_3 (zi aX (zi tI_31 (zi zI_31 (zi aN (zi bG (zi bH (zi b9 (zi tI_46 (zi zI_46 (zi dH (zi fA (zi eX (zi fB (zi tI_66 (zi zI_66 (zi bQ (zi bR (zi bS (zi bT (zi bP (zi tI_84 (zi zI_84 (zi kV (zi kW kU)))))))))))))))))))))))))
theorem aTM(c:Cl)(hc:gE c)(h6:c.2.length≤6)(st:aB):aD prog 305 [bX c] st (fun r st'=>r=.int .i64 (mL c:Int)∧st'=st):=by
 have hvr:=fun v=>hc.vars (v:=v)
 have hok:=hc.DW
 have hfr:(mL c:Int)=GM c:=by
  have:=(aI7 (bL (c.1::c.2) []) 0).1
  unfold mL GM
  omega
 rw[hfr,aWN]
 have hnd:bF Tm.nodes (c.1::c.2)≤1099511627776:=by
  have:∀l:List Tm,(∀t∈l,bB 26 t)→bF Tm.nodes l≤l.length*120:=by
   intro l
   induction l with
   | nil=>intro _;simp [bF]
   | cons x l ih=>intro h;simp only[bF,aS];have:=ih fun y hy=>h y (by simp [hy]);have:=(h x (by simp)).2;omega
  have:=this _ hok
  simp only[aS] at this
  omega
 have hvl:=yM (c.1::c.2) []
 obtain⟨⟨k,n,s,ts⟩,bd⟩:=c
 simp only at h6 hnd hvl hvr hok
 rw[fY]
 refine aD.done ?_
 refine wF [1000000] 1 func305 ntmps305 rfl rfl ?_
 intro _
 simp -implicitDefEqProofs only[aA,seval,L8]
 refine aQB aN bG bH rfl (.inl rfl) (by intro e he;simp only[cX,dN,dV] at he;subst he;rfl) (fun e he=>by simp only[cS] at he;obtain⟨t,_,rfl⟩:=he;exact⟨aJ _,cC _⟩) (by simp only[aS,aZ,aF];omega) (by simp only[aS,aZ,aF];omega) (fun q s2 hq=>?_)
 rw[←aV] at hq
 rw[show[(Tm.mk k n s ts).av]++bd.map Tm.av=((Tm.mk k n s ts)::bd).map Tm.av from rfl] at hq
 simp -implicitDefEqProofs only[aA,seval]
 refine Lit.call hq (iU _) (d6 _) (fun _=>rfl) ?_
 refine(W6 _ _ (fun t ht=>Tm.sG t (hok t ht).1.2.1) hnd).to ?_
 generalize bL ((Tm.mk k n s ts)::bd) []=vs at *
 simp only[aZ] at hvl
 simp -implicitDefEqProofs only[aA,seval]
 refine eP (σ:=Int) [1000000] [2,3] vs (fun i n=>(vs.drop i).foldl (fun n v=>if n≤v then v+1 else n) n=vs.foldl (fun n v=>if n≤v then v+1 else n) 0) (fun i n=>[(4,.int .i64 n),(5,.int .i64 i)]) (fun _ _=>st) (by decide +kernel) ⟨0,rfl,aO.mk (by simp -implicitDefEqProofs only[aA,↓aU,seval])⟩ (fun i x n hx hlt bV hdr hinv=>?_) (fun n hge hinv=>?_)
 case refine_2=>
  rw[kK] at hinv
  simp -implicitDefEqProofs only[aF,hge,aA,seval,L8]
  refine⟨?_,aM.refl _⟩
  rw[←hinv]
  try rfl
 rw[hdr,yW] at hinv
 have hw:=bO (n:=(i:Int)+1)
 obtain⟨t,ht,hv⟩:=(hvr x).1 (cP hx)
 have a7A:=(hok t ht).1.2.2 x hv
 have hw2:=bO (n:=x+1)
 have hat:dF prog 46 (.slice (vs.map iv)) (.int .i64 (i:Int))=some (.pptr (.int .i64 x)):=bM (av:=iv) dH hx rfl
 simp -implicitDefEqProofs only[aF,bV,hat,aA,seval,L8]
 refine aQ (fun h=>?_) (fun h=>?_)
 · rw[aH (by simpa using h)] at hinv
   simp -implicitDefEqProofs only[hat,hw2,hw,aA,seval,L8]
   exact⟨x+1,hinv,aO.mk (by simp -implicitDefEqProofs only[aA,seval])⟩
 · rw[aE (by simpa using h)] at hinv
   simp -implicitDefEqProofs only[hw,aA,seval]
   exact⟨n,hinv,aO.mk (by simp -implicitDefEqProofs only[aA,seval])⟩
theorem aMF{M:Int}(m:Nat)(hm:M+m≤1073741824):∀t:Tm,cJ M t→t.sh (m:Int)=cQ m t:=by
 intro t
 induction t using Tm.ind with
 | h k n s ts ih=>
  intro h
  rw[Tm.SI]
  by_cases hk:k=1
  · subst hk
    obtain⟨h0,h1,rfl,rfl⟩:=h.var
    unfold cQ
    rw[aH rfl,yB _ (t:=.mk 1 n ⟨#[]⟩ []) rfl,wrap64 (by omega) (by omega)]
    try rfl
  · obtain⟨_,h2⟩:=h.own hk
    unfold cQ at ih ⊢
    rw[aE hk,wI _ hk]
    congr 1
    exact qU fun x hx=>ih x hx (h2 x hx)
abbrev L9:=zi tI_3 (zi zI_3 (zi aX (zi tI_31 (zi zI_31 (zi aN (zi bG (zi bH (zi b9 (zi tI_66 (zi zI_66 (zi bQ (zi bR (zi bS (zi bT (zi bP (zi tI_163 (zi zI_163 (zi vM (zi zR (zi zU (zi IK (zi tI_286 (zi zI_286 (zi aIE (zi aIF VI)))))))))))))))))))))))))
theorem W2(bd:List Tm)(N a8:Nat)(rest:List RG)(hb:∀t∈bd,bB 26 t)(h6:bd.length≤6)(hN:N≤1048576)(hr:rest.length≤1048576)(st:aB) :
 aD prog 237 [.slice (bd.map Tm.av),.int .i64 (N:Int),.int .i64 (a8:Int),.slice (rest.map eU)] st (fun r st'=>r=.slice ((bd.map (fun t=>(⟨cQ N t,a8⟩:RG))++rest).map eU)∧st'=st):=by
 refine aD.pZ (aD.fin ?_)
 refine wF [1000000] 4 func237 ntmps237 rfl rfl ?_
 intro _
 simp -implicitDefEqProofs only[aA,seval,L9]
 refine eP (σ:=Nat) [1000000] [0,1,2,3,8] bd (fun i b=>((bd.take i).map (fun t=>(⟨cQ N t,a8⟩:RG))).map eU≠[]→st b=none) (fun i b=>[(9,bD 5 b (((bd.take i).map (fun t=>(⟨cQ N t,a8⟩:RG))).map eU)),(10,.int .i64 i)]) (fun i b=>a7 st b (((bd.take i).map (fun t=>(⟨cQ N t,a8⟩:RG))).map eU)) (by decide +kernel) ⟨0,fun h=>absurd rfl h,aO.mk (by simp -implicitDefEqProofs only[kS,aW,jG,aA,↓aU,seval])⟩ (fun i x b hx hlt bV hdr hinv=>?_) (fun b hge hinv=>?_)
 case refine_1=>
  have hw:=bO (n:=(i:Int)+1)
  have cZ:(((bd.take i).map (fun t=>(⟨cQ N t,a8⟩:RG))).map eU).length=i:=by simp only[aF,dS];omega
  have htk:(((bd.take i).map (fun t=>(⟨cQ N t,a8⟩:RG))).map eU)++ [eU ⟨cQ N x,a8⟩]=(((bd.take (i+1)).map (fun t=>(⟨cQ N t,a8⟩:RG))).map eU):=by rw[fG,hx];simp
  have hxo:=hb x (cP hx)
  have hsh:=aMF N (by omega) x hxo.1
  have hcs:=OP (N:Int) x
  rw[hsh] at hcs
  have hgo:eU ⟨cQ N x,a8⟩=.agg ((cQ N x).av.cells++ [.int .i64 (a8:Int)]):=a13 _
  simp -implicitDefEqProofs only[bV,aF,bM (av:=Tm.av) aN hx (aJ x),aT,aJ,aA,seval,L9]
  refine(hcs _ hxo.1.small).to ?_
  generalize cQ N x=y at *
  obtain⟨yk,yn,ys,yt⟩:=y
  simp only[aV,A5] at htk hgo ⊢
  simp -implicitDefEqProofs only[aA,seval,L9]
  refine eW vM zR zU rfl rfl (fM rfl rfl) (by intro e he;simp only[cS] at he;obtain⟨t,_,rfl⟩:=he;exact D6 t) hinv (by simp only[cZ,aS,aZ];omega) (by simp only[cZ,aS,aZ];omega) (fun b' hb'=>?_)
  rw[htk] at hb' ⊢
  simp -implicitDefEqProofs only[hw,aA,seval]
  exact⟨b',hb',aO.mk (by simp -implicitDefEqProofs only[aA,seval])⟩
 rw[eS] at hinv ⊢
 simp -implicitDefEqProofs only[aF,hge,aA,seval,L9]
 refine eW (xs:=rest.map eU) vM zR zU rfl rfl (by intro e he;simp only[cS] at he;obtain⟨t,_,rfl⟩:=he;exact⟨D6 t,a14 t⟩) (by intro e he;simp only[cS] at he;obtain⟨t,_,rfl⟩:=he;exact D6 t) hinv (by simp only[aF];omega) (by simp only[aF];omega) (fun b' hb'=>?_)
 rw[←tM] at hb' ⊢
 simp -implicitDefEqProofs only[aA,seval]
 exact⟨b',_,st,rfl,hb',by intro e he;simp only[cS] at he;obtain⟨t,_,rfl⟩:=he;exact a12 t,⟨5,by intro e he;simp only[cS] at he;obtain⟨t,_,rfl⟩:=he;exact D6 t⟩,by rw[iP],aM.refl _⟩
def p8(p:List Cl)(t:Tm)(i:Nat):Bool:=match p[i]? with
 | some c=>DB c t
 | none=>false
theorem KO(p:List Cl)(t:Tm):d8 p t=(List.range p.length).filter (p8 p t):=rfl
theorem aI6(p:List Cl)(t:Tm)(i:Nat):(List.range (i+1)).filter (p8 p t)=(List.range i).filter (p8 p t)++(if p8 p t i=true then[i] else[]):=by
 rw[List.range_succ,List.filter_append]
 congr 1
 by_cases h:p8 p t i=true<;>simp [h]
theorem KP(p:List Cl)(t:Tm)(i:Nat):((List.range i).filter (p8 p t)).length≤i:=by
 have:=List.length_filter_le (p8 p t) (List.range i)
 rw[I3] at this
 exact this
theorem RF(l:List Nat):∀e∈l.map nv,e.width=1:=by intro e h;simp only[cS] at h;obtain⟨t,_,rfl⟩:=h;rfl
abbrev EG:=zi tI_3 (zi zI_3 (zi aX (zi tI_9 (zi zI_9 (zi cI (zi tI_29 (zi zI_29 (zi gW (zi kA (zi kB (zi lL (zi tI_31 (zi zI_31 (zi aN (zi bG (zi bH (zi b9 (zi tI_46 (zi zI_46 (zi dH (zi fA (zi eX (zi fB (zi tI_66 (zi zI_66 (zi bQ (zi bR (zi bS (zi bT (zi bP (zi tI_84 (zi zI_84 (zi kV (zi kW kU))))))))))))))))))))))))))))))))))
theorem aS7(p:List Cl)(t:Tm)(hp:p.length≤1048576)(st:aB):aD prog 198 [.slice (p.map bX),t.av] st (fun r st'=>r=.slice ((d8 p t).map nv)∧st'=st):=by
 rw[KO]
 refine aD.done ?_
 obtain⟨tk,tn,ts',tts⟩:=t
 simp only[aV]
 refine wF [1000000] 2 func198 ntmps198 rfl rfl ?_
 intro _
 simp -implicitDefEqProofs only[aA,seval,EG]
 refine rT (σ:=Unit) [1000000] [0,3,4] p 1 5 (fun i _=>((List.range i).filter (p8 p (.mk tk tn ts' tts))).map nv) (fun _ _=>True) (fun i _=>[(6,.int .i64 i)]) (fun _ _=>st) (fun i _ _ e he=>by simp only[cS] at he;obtain⟨t,_,rfl⟩:=he;exact⟨rfl,rfl⟩) (by decide +kernel) ⟨(),0,trivial,fun h=>absurd rfl h,aO.mk (by simp -implicitDefEqProofs only[jG,List.range_zero,List.filter_nil,aW,aA,↓aU,seval])⟩ (fun i x s b hx hlt bV hdr hinv hb=>?_) (fun s b hge hinv=>?_)
 case refine_2=>
  simp -implicitDefEqProofs only[hge,eG,iN,oD,zX,lV,aF,aA,seval,EG]
  exact⟨rfl,aM.refl _⟩
 have hw:=bO (n:=(i:Int)+1)
 have hst:=aI6 p (.mk tk tn ts' tts) i
 have hln:=KP p (.mk tk tn ts' tts) i
 have hat:=bM (av:=bX) (P:=prog) gW hx (nO x)
 obtain⟨⟨k,n,s',ts⟩,bd⟩:=x
 rw[fY] at hat
 have hP:p8 p (.mk tk tn ts' tts) i=(decide (s'=ts')&&decide ((ts.length:Int)=(tts.length:Int))):=by unfold p8;rw[hx];try rfl
 rw[hP] at hst
 simp -implicitDefEqProofs only[bV,aF,aA,seval,EG]
 refine wP [(0,1),(1,1),(2,1),(3,1),(4,1),(6,1),(5,2),(7,2),(8,1),(9,1),(10,1),(11,1),(12,1),(13,1),(14,1),(17,1),(15,2),(16,1),(18,2),(19,1),(20,1),(21,1)] [0,1,2,3,4,6,5,7,8,9,10,11,12,13,14,17,15,16,18,19,20,21] mixed ?_
 simp -implicitDefEqProofs only[hat,aA,seval,EG]
 refine cV (fun h=>?_) (fun h=>?_)
 case refine_2=>
  have h':(decide (s'=ts')&&decide ((ts.length:Int)=(tts.length:Int)))=false:=by simp at h;simp [h]
  rw[h',aE (by simp),g9] at hst
  rw[←hst] at hb ⊢
  simp -implicitDefEqProofs only[h,hw,aA,seval]
  exact⟨(),b,hb,aO.mk (by simp -implicitDefEqProofs only[aA,seval])⟩
 have h1:decide (s'=ts')=true:=by simpa using h
 rw[h1,eV] at hst
 simp -implicitDefEqProofs only[h,aF,hat,aA,seval,EG]
 refine aQ (fun h2=>?_) (fun h2=>?_)
 · rw[aH h2] at hst
   simp -implicitDefEqProofs only[aA,seval,EG]
   refine eW dH fA eX rfl rfl (fM rfl rfl) (RF _) hb (by simp only[aF,aS,aZ];omega) (by simp only[aF,aS,aZ];omega) (fun b' hb'=>?_)
   rw[show ∀l:List Nat,l.map nv++ [AV.int .i64 (i:Int)]=(l++ [i]).map nv from fun l=>by simp [nv],←hst] at hb' ⊢
   simp -implicitDefEqProofs only[hw,aA,seval]
   exact⟨(),b',hb',aO.mk (by simp -implicitDefEqProofs only[aA,seval])⟩
 · rw[aE (by simp [h2]),g9] at hst
   rw[←hst] at hb ⊢
   simp -implicitDefEqProofs only[hw,aA,seval]
   exact⟨(),b,hb,aO.mk (by simp -implicitDefEqProofs only[aA,seval])⟩
theorem Q2{n:Int}:∀ {l:List Int},l.Nodup→∀ {i:Nat},l[i]?=some n→∀j:Int,d5 n l j=j+i
 | [],_,i,h,j=>by simp at h
 | x::l,hd,0,h,j=>by
  simp only[I1,Option.some.injEq] at h
  subst h
  simp [d5]
 | x::l,hd,i+1,h,j=>by
  rw[List.nodup_cons] at hd
  rw[I0] at h
  have hm:=cP h
  simp only[d5]
  rw[aE (fun e:n=x=>hd.1 (e▸hm)),Q2 hd.2 h (j+1)]
  omega
abbrev nF:=zi tI_3 (zi zI_3 (zi aX (zi tI_9 (zi zI_9 (zi cI (zi tI_31 (zi zI_31 (zi aN (zi bG (zi bH (zi b9 (zi tI_46 (zi zI_46 (zi dH (zi fA (zi eX (zi fB (zi tI_66 (zi zI_66 (zi bQ (zi bR (zi bS (zi bT bP)))))))))))))))))))))))
theorem WL(vars:List Int)(hnd:vars.Nodup)(hvl:vars.length≤1048576):∀(t:Tm) (st:aB),t.small=true→t.cv=true→(∀v∈t.vl,v∈vars)→aD prog 304 [t.av,.slice (vars.map iv)] st (fun r st'=>r=(t.aG fun v=>vr (d5 v vars 0)).av∧st'=st)
 | .mk k n s ts,st,hsm,hcv,hin=>by
  obtain⟨hlen,pI⟩:=Tm.oR hsm
  obtain⟨hc1,hcs⟩:=Tm.lR.1 hcv
  have IH:=fun(x:Tm) (hx:x∈ts) st=>WL vars hnd hvl x st (pI x hx) (hcs x hx) (fun v hv=>by
   by_cases hk:k=1
   · rw[(hc1 hk).2] at hx;cases hx
   · exact hin v ((Tm.k8 hk).2 ⟨x,hx,hv⟩))
  generalize hg:(Tm.aG fun v=>vr (d5 v vars 0))=g at IH
  refine aD.pZ (aD.fin ?_)
  simp only[aV]
  refine wF [1000000,5] 2 func304 ntmps304 rfl rfl ?_
  intro _
  simp -implicitDefEqProofs only[aK,aA,↓aU,seval,nF]
  intro b4 h4 c hc
  have hne:c≠b4:=by rintro rfl;rw[aB.aP] at hc;cases hc
  have hnc:st c=none:=by rw[aB.aL st _ hne] at hc;exact hc
  have QI:∀i:Nat,vars[i]?=some n→d5 n vars 0=(i:Int):=fun i hi=>by
   have:=Q2 hnd hi 0
   omega
  generalize hW:st.aC b4 (.cells [AV.int .i64 0,AV.int .i64 0,AV.str ⟨#[]⟩,AV.fslice []])=W
  have hWc:W c=none:=by rw[←hW];exact hc
  have hW4:W b4=some (.cells [AV.int .i64 0,AV.int .i64 0,AV.str ⟨#[]⟩,AV.fslice []]):=by rw[←hW];exact aB.aP _ _ _
  have hS:W b4≠none:=by rw[hW4];simp
  have K0:b4≠c:=dD hne
  refine iE (σ:=Nat×Int) [1000000,5] [1,2,4,5] (fun p=>p.1≤vars.length∧(k≠1→p.2=n)∧(k=1→(n∈vars.take p.1→p.2=d5 n vars 0))) (fun p=>[(6,.int .i64 p.1)]) (fun p=>W.aC c (.cells [.int .i64 k,.int .i64 p.2,.str s,.fslice []])) (fun p=>vars.length - p.1) (by decide +kernel) ⟨(0,n),⟨jD _,fun _=>rfl,fun _ h=>by simp at h⟩,aO.mk (by simp -implicitDefEqProofs only[aA,↓aU,seval])⟩ ?_
  rintro⟨i,n'⟩ ⟨h1,h2,h3⟩
  simp only at h1 h2 h3
  have rest:(k=1→n'=d5 n vars 0)→True:=fun _=>trivial
  simp -implicitDefEqProofs only[aF,aA,seval,nF]
  have fin:(k=1→n'=d5 n vars 0)→g (.mk k n s ts)=.mk k n' s (ts.map g):=fun h4=>by
   rw[←hg]
   by_cases hk:k=1
   · obtain⟨rfl,rfl⟩:=hc1 hk
     rw[Tm.kY _ hk,h4 hk,hk];try rfl
   · rw[Tm.j4 _ hk,h2 hk]
  refine cV (fun h=>?_) (fun h=>?_)
  case refine_2=>
   have h4:(k=1→n'=d5 n vars 0):=fun hk=>h3 hk (by
    have:i=vars.length:=by simp at h;omega
    rw[this,eS]
    exact hin n (by rw[Tm.mS hk];simp))
   simp -implicitDefEqProofs only[h,aA,seval]
   refine eP (σ:=Nat) [1000000,5] [1,2,4,5] ts (fun i b=>(((ts.take i).map g).map Tm.av≠[]→(aB.aC W c (.cells ([AV.int .i64 k,AV.int .i64 (n'),AV.str s]++ [bD 4 b (((ts.take i).map g).map Tm.av)]))) b=none)) (fun i b=>[(7,.int .i64 i)]) (fun i b=>fK W c b [AV.int .i64 k,AV.int .i64 (n'),AV.str s] (((ts.take i).map g).map Tm.av)) (by decide +kernel)
    ⟨0,fun h=>absurd rfl h,aO.mk (by simp -implicitDefEqProofs only[aA,↓aU,seval])⟩ (fun i x b hx hlt bV hdr hinv=>?_) (fun b hge hinv=>?_)
   case refine_1=>
    have hw:=bO (n:=(i:Int)+1)
    have cZ:(((ts.take i).map g).map Tm.av).length=i:=by simp only[aF,dS];omega
    have htk:(ts.take (i+1)).map g=(ts.take i).map g++ [g x]:=by rw[fG,hx];simp
    have hbo:=eN hinv
    simp -implicitDefEqProofs only[aF,bV,aF,aA,seval,nF]
    refine wP [(0,1),(2,1),(4,1),(7,1),(1,2),(3,2),(5,1),(6,2),(8,2),(9,1),(10,0),(11,1),(12,0)] [0,2,4,7,1,3,5,6,8,9,11] mixed ?_
    simp -implicitDefEqProofs only[bM (av:=Tm.av) aN hx (aJ x),aT,aJ,hbo,mZ,aA,seval,nF]
    refine iD (IH x (cP hx) _) ?_
    simp -implicitDefEqProofs only[aT,aJ,cG,aA,seval,nF]
    refine eW aN bG bH rfl rfl (fM (aJ _) (cC _)) (d6 _) hinv (by simp only[cZ,aS,aZ];omega) (by simp only[cZ,aS,aZ];omega) (fun b' hb'=>?_)
    rw[show(((ts.take i).map g).map Tm.av)++ [(g x).av]=((ts.take (i+1)).map g).map Tm.av by rw[htk];simp] at hb' ⊢
    obtain⟨g1,g2,g3⟩:=oL hb'
    simp only[fL,eR] at g1 g3
    simp -implicitDefEqProofs only[g3,m6,fJ,aK,g1,hw,aK,aA,seval,nF]
    exact⟨b',g2,aO.mk (by simp -implicitDefEqProofs only[aA,seval])⟩
   have hbo:=eN hinv
   rw[eS] at hinv hbo ⊢
   simp -implicitDefEqProofs only[aF,hge,aF,aA,seval,nF]
   simp -implicitDefEqProofs only[hbo,aK,aA,seval,nF]
   have g1:=gS hinv hS K0
   rw[hW4] at g1
   simp -implicitDefEqProofs only[g1,fJ,aA,seval]
   obtain⟨g2,g3⟩:=kE (o:=.cells [AV.int .i64 k,AV.int .i64 (n'),AV.str s,bD 4 b ((ts.map g).map Tm.av)]) hinv hS K0
   refine⟨b,_,_,g2,g3,iU _,⟨4,d6 _⟩,?_,fun x=>?_⟩
   · simp only[fZ,bA,aW,eG,iY,iP,←aV]
     rw[fin h4]
   · subst hW
     by_cases e3:x=b4<;>by_cases e4:x=c<;>simp_all [aB.aC]
  have hlt:i<vars.length:=by simpa using h
  simp -implicitDefEqProofs only[h,aA,seval,nF]
  refine aQ (fun h5=>?_) (fun h5=>?_)
  case refine_2=>
   have h5':k≠1:=by simpa using h5
   have h4:(k=1→n'=d5 n vars 0):=fun hk=>absurd hk h5'
   simp -implicitDefEqProofs only[aA,seval]
   refine eP (σ:=Nat) [1000000,5] [1,2,4,5] ts (fun i b=>(((ts.take i).map g).map Tm.av≠[]→(aB.aC W c (.cells ([AV.int .i64 k,AV.int .i64 (n'),AV.str s]++ [bD 4 b (((ts.take i).map g).map Tm.av)]))) b=none)) (fun i b=>[(7,.int .i64 i)]) (fun i b=>fK W c b [AV.int .i64 k,AV.int .i64 (n'),AV.str s] (((ts.take i).map g).map Tm.av)) (by decide +kernel)
    ⟨0,fun h=>absurd rfl h,aO.mk (by simp -implicitDefEqProofs only[aA,↓aU,seval])⟩ (fun i x b hx hlt bV hdr hinv=>?_) (fun b hge hinv=>?_)
   case refine_1=>
    have hw:=bO (n:=(i:Int)+1)
    have cZ:(((ts.take i).map g).map Tm.av).length=i:=by simp only[aF,dS];omega
    have htk:(ts.take (i+1)).map g=(ts.take i).map g++ [g x]:=by rw[fG,hx];simp
    have hbo:=eN hinv
    simp -implicitDefEqProofs only[aF,bV,aF,aA,seval,nF]
    refine wP [(0,1),(2,1),(4,1),(7,1),(1,2),(3,2),(5,1),(6,2),(8,2),(9,1),(10,0),(11,1),(12,0)] [0,2,4,7,1,3,5,6,8,9,11] mixed ?_
    simp -implicitDefEqProofs only[bM (av:=Tm.av) aN hx (aJ x),aT,aJ,hbo,mZ,aA,seval,nF]
    refine iD (IH x (cP hx) _) ?_
    simp -implicitDefEqProofs only[aT,aJ,cG,aA,seval,nF]
    refine eW aN bG bH rfl rfl (fM (aJ _) (cC _)) (d6 _) hinv (by simp only[cZ,aS,aZ];omega) (by simp only[cZ,aS,aZ];omega) (fun b' hb'=>?_)
    rw[show(((ts.take i).map g).map Tm.av)++ [(g x).av]=((ts.take (i+1)).map g).map Tm.av by rw[htk];simp] at hb' ⊢
    obtain⟨g1,g2,g3⟩:=oL hb'
    simp only[fL,eR] at g1 g3
    simp -implicitDefEqProofs only[g3,m6,fJ,aK,g1,hw,aK,aA,seval,nF]
    exact⟨b',g2,aO.mk (by simp -implicitDefEqProofs only[aA,seval])⟩
   have hbo:=eN hinv
   rw[eS] at hinv hbo ⊢
   simp -implicitDefEqProofs only[aF,hge,aF,aA,seval,nF]
   simp -implicitDefEqProofs only[hbo,aK,aA,seval,nF]
   have g1:=gS hinv hS K0
   rw[hW4] at g1
   simp -implicitDefEqProofs only[g1,fJ,aA,seval]
   obtain⟨g2,g3⟩:=kE (o:=.cells [AV.int .i64 k,AV.int .i64 (n'),AV.str s,bD 4 b ((ts.map g).map Tm.av)]) hinv hS K0
   refine⟨b,_,_,g2,g3,iU _,⟨4,d6 _⟩,?_,fun x=>?_⟩
   · simp only[fZ,bA,aW,eG,iY,iP,←aV]
     rw[fin h4]
   · subst hW
     by_cases e3:x=b4<;>by_cases e4:x=c<;>simp_all [aB.aC]
  have hk:k=1:=by simpa using h5
  obtain⟨x,hx⟩:∃x,vars[i]?=some x:=⟨_,eE hlt⟩
  have hat:dF prog 46 (.slice (vars.map iv)) (.int .i64 (i:Int))=some (.pptr (.int .i64 x)):=bM (av:=iv) dH hx rfl
  have hw:=bO (n:=(i:Int)+1)
  have htk:vars.take (i+1)=vars.take i++ [x]:=by rw[fG,hx];try rfl
  simp -implicitDefEqProofs only[aA,seval]
  refine wP [(0,1),(1,1),(2,1),(4,1),(3,2),(5,2),(6,1)] [0,1,2,4,3,5,6] mixed ?_
  simp -implicitDefEqProofs only[hat,aA,seval,nF]
  refine aQ (fun h6=>?_) (fun h6=>?_)
  · have h6':x=n:=by simpa using h6
    subst h6'
    simp -implicitDefEqProofs only[aK,hw,aA,seval,nF]
    refine⟨(i+1,(i:Int)),by simp only;omega,⟨hlt,fun h=>absurd hk h,fun _ _=>(QI i hx).symm⟩,aO.mk (by simp -implicitDefEqProofs only[aA,seval])⟩
  · have h6':x≠n:=by simpa using h6
    simp -implicitDefEqProofs only[hw,aA,seval]
    refine⟨(i+1,n'),by simp only;omega,⟨hlt,h2,fun hk hm=>h3 hk ?_⟩,aO.mk (by simp -implicitDefEqProofs only[aA,seval])⟩
    rw[htk,fF] at hm
    rcases hm with hm | hm
    · exact hm
    · simp only[cX,dN,dV] at hm
      exact absurd hm.symm h6'
termination_by t=>SizeOf.sizeOf t
decreasing_by have:=List.sizeOf_lt_of_mem hx;simp only[Tm.mk.sizeOf_spec];omega
theorem MU:∀(ts:List Tm) (l:List Int),(∀t∈ts,t.wf=true)→l.Nodup→(bL ts l).Nodup
 | [],l,_,h=>h
 | t::ts,l,hw,h=>MU ts _ (fun x hx=>hw x (by simp [hx])) ((TS t (hw t (by simp)) l).2.1 h)
theorem DS:∀l:List Tm,(∀t∈l,t.nodes≤120)→bF Tm.nodes l≤l.length*120
 | [],_=>by simp [bF]
 | x::l,h=>by
  simp only[bF,aS]
  have:=DS l fun y hy=>h y (by simp [hy])
  have:=h x (by simp)
  omega
abbrev EH:=zi tI_3 (zi zI_3 (zi aX (zi tI_31 (zi zI_31 (zi aN (zi bG (zi bH (zi b9 (zi tI_46 (zi zI_46 (zi dH (zi fA (zi eX (zi fB (zi tI_66 (zi zI_66 (zi bQ (zi bR (zi bS (zi bT bP))))))))))))))))))))
theorem aSP{N:Int}(l:List Tm)(hok:∀t∈l,bB N t)(hl:l.length≤1000)(st:aB):aD prog 239 [.slice (l.map Tm.av)] st (fun r st'=>r=.slice ((nW l).map Tm.av)∧st'=st):=by
 have hnd:=DS l fun t ht=>(hok t ht).2
 have QC:=MU l [] (fun t ht=>Tm.sG t (hok t ht).1.2.1) oW
 have gX:=fun v=>tC (v:=v) l [] fun t ht=>(hok t ht).1.2.1
 have hvl:=yM l []
 simp only[aZ] at hvl
 refine aD.done ?_
 refine wF [1000000] 1 func239 ntmps239 rfl rfl ?_
 intro _
 simp -implicitDefEqProofs only[aA,seval,EH]
 refine rT (σ:=Unit) [1000000] [0,2] l 1 3 (fun i _=>(bL (l.take i) []).map iv) (fun _ _=>True) (fun i _=>[(4,.int .i64 i)]) (fun _ _=>st) (fun i _ _ e he=>by simp only[cS] at he;obtain⟨t,_,rfl⟩:=he;exact⟨rfl,rfl⟩) (by decide +kernel) ⟨(),0,trivial,fun h=>absurd rfl h,aO.mk (by simp -implicitDefEqProofs only[jG,kS,bL,aW,aA,↓aU,seval])⟩ (fun i x s b hx hlt bV hdr hinv hb=>?_) (fun s b hge hinv=>?_)
 case refine_1=>
  have hw:=bO (n:=(i:Int)+1)
  have hat:=bM (av:=Tm.av) aN hx (aJ x)
  have hst:=HW Tm.nodes hx
  have hvl:=yM (l.take i) []
  simp only[aZ,hH] at hvl
  have htk:x.vars (bL (l.take i) [])=bL (l.take (i+1)) []:=by
   rw[fG,hx,TE]
   try rfl
  simp -implicitDefEqProofs only[bV,aF,hat,aT,aJ,aA,seval,EH]
  refine(FT x (bL (l.take i) []) b st (Tm.sG x (hok x (cP hx)).1.2.1) hb (by omega)).mono ?_
  rintro _ _ ⟨b',rfl,rfl,hb'⟩
  rw[htk] at hb' ⊢
  simp -implicitDefEqProofs only[aA,seval]
  exact⟨(),b',hb',aO.mk (by simp -implicitDefEqProofs only[hw,aA,seval])⟩
 simp -implicitDefEqProofs only[hge,eG,iN,oD,lV,eS,aF,aA,seval,EH]
 have hR:nW l=l.map fun t=>t.aG fun v=>vr (d5 v (bL l []) 0):=rfl
 rw[hR]
 generalize bL l []=vars at *
 refine rT (σ:=Unit) [1000000] [0,2,3] l 4 5 (fun i _=>((l.take i).map fun t=>t.aG fun v=>vr (d5 v vars 0)).map Tm.av) (fun _ _=>True) (fun i _=>[(6,.int .i64 i)]) (fun _ _=>st) (fun i _ _ e he=>by simp only[cS] at he;obtain⟨t,_,rfl⟩:=he;exact⟨cG _,aJ _⟩) (by decide +kernel) ⟨(),0,trivial,fun h=>absurd rfl h,aO.mk (by simp -implicitDefEqProofs only[jG,kS,aW,aA,↓aU,seval])⟩ (fun i x s b hx hlt bV hdr hinv hb=>?_) (fun s b hge hinv=>?_)
 case refine_2=>
  simp -implicitDefEqProofs only[hge,eG,iN,lV,eS,aF,aA,seval,EH]
  exact⟨rfl,aM.refl _⟩
 have hw:=bO (n:=(i:Int)+1)
 have hat:=bM (av:=Tm.av) aN hx (aJ x)
 have hxm:=cP hx
 have cZ:(((l.take i).map fun t=>t.aG fun v=>vr (d5 v vars 0)).map Tm.av).length=i:=by simp only[aF,dS];omega
 simp -implicitDefEqProofs only[bV,aF,hat,aT,aJ,aA,seval,EH]
 refine(WL vars QC (by omega) x _ (hok x hxm).1.small (hok x hxm).1.2.1 (fun v hv=>(gX v).2 (.inr ⟨x,hxm,hv⟩))).to ?_
 simp -implicitDefEqProofs only[aT,aJ,cG,aA,seval,EH]
 refine eW aN bG bH rfl rfl (fM (aJ _) (cC _)) (d6 _) hb (by simp only[cZ,aS,aZ];omega) (by simp only[cZ,aS,aZ];omega) (fun b' hb'=>?_)
 rw[show(((l.take i).map fun t=>t.aG fun v=>vr (d5 v vars 0)).map Tm.av)++ [(x.aG fun v=>vr (d5 v vars 0)).av]=((l.take (i+1)).map fun t=>t.aG fun v=>vr (d5 v vars 0)).map Tm.av by rw[fG,hx];simp] at hb' ⊢
 simp -implicitDefEqProofs only[aA,seval]
 exact⟨(),b',hb',aO.mk (by simp -implicitDefEqProofs only[hw,aA,seval])⟩
abbrev aNN:=zi tI_3 (zi zI_3 (zi aX (zi tI_4 (zi zI_4 (zi cE (zi tI_31 (zi zI_31 (zi aN (zi bG (zi bH (zi b9 (zi tI_66 (zi zI_66 (zi bQ (zi bR (zi bS (zi bT bP)))))))))))))))))
theorem aSF(l:List Tm)(st:aB):aD prog 134 [.slice (l.map Tm.av)] st (fun r st'=>r=.bool (l.all Tm.valid)∧st'=st):=by
 refine wF [1000000] 1 func134 ntmps134 rfl rfl ?_
 simp only[eC,AV.fits,eF,aF]
 intro ⟨hl,_⟩
 simp -implicitDefEqProofs only[aA,seval]
 refine eP (σ:=Unit) [1000000] [0] l (fun i _=>((l.drop i).all Tm.valid)=(l.all Tm.valid)) (fun i _=>[(3,.int .i64 i)]) (fun _ _=>st) (by decide +kernel) ⟨(),rfl,aO.mk (by simp -implicitDefEqProofs only[aA,↓aU,seval])⟩ (fun i x _ hx hlt bV hdr hinv=>?_) (fun _ hge hinv=>?_)
 case refine_2=>
  simp -implicitDefEqProofs only[hge,aF,aA,seval,aNN]
  rw[←hinv,kK]
  try rfl
 have hw:=bO (n:=(i:Int)+1)
 rw[hdr,kJ] at hinv
 simp -implicitDefEqProofs only[bV,aF,bM (av:=Tm.av) aN hx (aJ x),aT,aJ,aA,seval,aNN]
 refine(OW x _).to ?_
 simp -implicitDefEqProofs only[aA,seval]
 refine aQ (fun h2=>?_) (fun h2=>?_)
 · simp -implicitDefEqProofs only[aA,seval]
   simp only[kQ] at h2
   rw[←hinv,h2]
   try rfl
 · simp only[qR] at h2
   rw[h2,eV] at hinv
   simp -implicitDefEqProofs only[aA,seval]
   exact⟨(),hinv,aO.mk (by simp -implicitDefEqProofs only[hw,aA,seval])⟩
theorem aKO(v:Int):∀(l:List Int) (i:Int),v∈l→i≤d5 v l i∧d5 v l i<i+l.length
 | [],i,h=>by cases h
 | x::l,i,h=>by
  simp only[d5,aS]
  split
  · omega
  · rename_i e
    have h':v∈l:=by
     rcases cX.1 h with h | h
     · exact absurd h e
     · exact h
    have:=aKO v l (i+1) h'
    omega
theorem aL3{N:Int}{l:List Tm}(hok:∀t∈l,bB N t)(hf:l.all eL=true):(nW l).all Tm.valid=decide ((bL l []).length≤26):=by
 have gX:=fun v=>tC (v:=v) l [] fun t ht=>(hok t ht).1.2.1
 have QC:=MU l [] (fun t ht=>Tm.sG t (hok t ht).1.2.1) oW
 have hro:∀t∈l,cJ (bL l []).length (t.aG fun v=>vr (d5 v (bL l []) 0)):=fun t ht=>
  (hok t ht).1.aG fun v hv=>by
   have:=aKO v (bL l []) 0 ((gX v).2 (.inr ⟨t,ht,hv⟩))
   exact HD (by omega) (by omega)
 have fD:∀t∈l,eL (t.aG fun v=>vr (d5 v (bL l []) 0))=true:=fun t ht=>by
  have:=dW.1 hf t ht
  unfold eL at this ⊢
  rw[show(t.aG fun v=>vr (d5 v (bL l []) 0))=b7 (fun v=>d5 v (bL l []) 0) t from rfl,SC _ (hok t ht).1.2.1,LW _ (hok t ht).1.2.1]
  exact this
 rw[uQ,dW,bJ]
 constructor
 · intro h
   refine yU fun hn=>?_
   obtain⟨w,hw⟩:∃w,(bL l [])[26]?=some w:=⟨_,eE (by omega)⟩
   rcases (gX w).1 (cP hw) with h1 | ⟨t,ht,hv⟩
   · cases h1
   · have rF:=h _ (cS.2 ⟨t,ht,rfl⟩)
     have hin:=(Tm.IN rF).2.2 26 ((wR t).2 ⟨w,hv,by rw[Q2 QC hw 0,yO];simp⟩)
     omega
 · intro h x hx
   obtain⟨t,ht,rfl⟩:=cS.1 hx
   have h1:=aLH.2 ((hro t ht).mono (show((bL l []).length:Int)≤26 by omega))
   rw[Tm.IM h1]
   exact fD t ht
theorem a1Z{N:Int}{l:List Tm}(hok:∀t∈l,bB N t):(nW l).length=l.length:=by unfold nW;rw[aF]
abbrev wN:=zi tI_3 (zi zI_3 (zi aX (zi tI_4 (zi zI_4 (zi cE (zi tI_31 (zi zI_31 (zi aN (zi bG (zi bH (zi b9 (zi tI_46 (zi zI_46 (zi dH (zi fA (zi eX (zi fB (zi tI_59 (zi zI_59 (zi t8 (zi tW (zi tI_66 (zi zI_66 (zi bQ (zi bR (zi bS (zi bT bP)))))))))))))))))))))))))))
theorem aTK{N:Nat}{σ:Sub}(hg:cO σ)(ho:cW (bB N) σ)(vars:List Int)(hv:∀v∈vars,0≤v∧v<(N:Int))(hl:vars.length≤1000)(st:aB) :
 aD prog 159 [.slice (vars.map iv),.slice (c8 N σ)] st (fun r st'=>st'=st∧∃a,r=.tup [cU a,.bool (iA σ vars).isSome]∧∀x,iA σ vars=some x→a=x):=by
 obtain⟨rk,B,G⟩:=hg.rs
 refine aD.mK (aD.soft ?_)
 refine wF [1000000] 2 func159 ntmps159 rfl rfl ?_
 intro _
 simp -implicitDefEqProofs only[aA,seval,wN]
 intro b4 h4
 refine rT (σ:=Unit) [1000000] [0,1,4] vars 4 6 (fun i _=>((vars.take i).map (rs σ)).map Tm.av) (fun i _=>((vars.take i).map (rs σ)).all eL=true) (fun i _=>[(5,.bool false),(7,.int .i64 i)]) (fun _ _=>st.aC b4 (.cells [.fslice []])) (fun i _ _ e he=>by simp only[cS] at he;obtain⟨t,_,rfl⟩:=he;exact⟨cG _,aJ _⟩) (by decide +kernel) ⟨(),0,rfl,fun h=>absurd rfl h,aO.mk (by simp -implicitDefEqProofs only[jG,kS,aW,aA,↓aU,seval])⟩ (fun i x s b hx hlt bV hdr hinv hb=>?_) (fun s b hge hinv=>?_)
 · have hw:=bO (n:=(i:Int)+1)
   have hxm:=cP hx
   obtain⟨hx0,hx1⟩:=hv x hxm
   have hvr:bB N (vr x):=⟨HD hx0 hx1,by rw[vr,Tm.gI];simp [bF]⟩
   have hat:dF prog 46 (.slice (vars.map iv)) (.int .i64 (i:Int))=some (.pptr (.int .i64 x)):=bM (av:=iv) dH hx rfl
   have cZ:(((vars.take i).map (rs σ)).map Tm.av).length=i:=by simp only[aF,dS];omega
   have dX:((vars.take (i+1)).map (rs σ)).all eL=eL (rs σ x):=by
    rw[fG,hx]
    simp only[BX,tM,bA,aW,BP,hinv,kJ,List.all_nil,yR,eV]
   simp -implicitDefEqProofs only[bV,aF,hat,aA,seval,wN]
   refine(JW x _).to ?_
   simp -implicitDefEqProofs only[aA,seval]
   refine(W3 hg ho (vr x) hvr _).mono ?_
   rintro _ _ ⟨rfl,y,rfl,hy⟩
   rw[qI] at hy ⊢
   simp -implicitDefEqProofs only[aJ,cC,cG,aA,↓aU,seval,wN]
   refine aQ (fun h=>?_) (fun h=>?_)
   · have h':eL (rs σ x)=false:=by simpa using h
     have qA:iA σ vars=none:=by
      unfold iA
      rw[aE]
      rintro⟨h1,_⟩
      have:=dW.1 h1 _ (cS.2 ⟨x,hxm,rfl⟩)
      rw[h'] at this;cases this
     have hbo:∀l,(l≠[]→st b=none)→(l≠[]→b≠b4)→(a7 (st.aC b4 (.cells [.fslice []])) b l) b4=some (.cells [.fslice []]):=fun l _ h2=>by
      cases l with
      | nil=>exact aB.aP _ _ _
      | cons e l=>simp only[a7];rw[aB.aL _ _ (dD (h2 (by simp)))];exact aB.aP _ _ _
     have hnb:((vars.take i).map (rs σ)).map Tm.av≠[]→b≠b4:=fun h=>by rintro rfl;have:=hb h;rw[aB.aP] at this;cases this
     have aYF:((vars.take i).map (rs σ)).map Tm.av≠[]→st b=none:=fun h=>by have:=hb h;rw[aB.aL _ _ (hnb h)] at this;exact this
     have e1:=hbo _ aYF hnb
     simp -implicitDefEqProofs only[aK,e1,aA,seval,wN]
     rw[qA]
     refine⟨st,?_,rfl,[],rfl,fun x h=>by cases h⟩
     intro z
     by_cases hz:z=b4
     · subst hz;simp [aB.aC,h4]
     · rw[aB.aL _ _ hz]
       exact((aM.a7 (aM.refl _) hb).trans ((aM.refl st).aC h4)) z
   · have h':eL (rs σ x)=true:=by simpa using h
     obtain rfl:=hy h'
     simp -implicitDefEqProofs only[aT,aJ,cG,aA,seval,wN]
     refine eW aN bG bH rfl rfl (fM (aJ _) (cC _)) (d6 _) hb (by simp only[cZ,aS,aZ];omega) (by simp only[cZ,aS,aZ];omega) (fun b' hb'=>?_)
     rw[show(((vars.take i).map (rs σ)).map Tm.av)++ [(rs σ x).av]=((vars.take (i+1)).map (rs σ)).map Tm.av by rw[fG,hx];simp] at hb' ⊢
     simp -implicitDefEqProofs only[hw,aA,seval]
     exact⟨(),b',by rw[dX];exact h',hb',aO.mk (by simp -implicitDefEqProofs only[aA,seval])⟩
 · rw[eS] at hinv
   have hok:∀t∈vars.map (rs σ),bB N t:=fun t ht=>by
    obtain⟨v,h,rfl⟩:=cS.1 ht
    obtain⟨h0,h1⟩:=hv v h
    have hf:=dW.1 hinv _ ht
    unfold eL at hf
    simp only[cA,bJ] at hf
    exact⟨G.k0 ho.k0 v h0 h1,hf.2⟩
   have rF:=aL3 hok hinv
   have qA:iA σ vars=if(bL (vars.map (rs σ)) []).length≤26 then some (nW (vars.map (rs σ))) else none:=by
    unfold iA
    simp only[hinv,tD]
   have aYQ:=fun st=>aSP _ hok (by rw[aF];exact hl) st
   have dX:=fun st=>aSF (nW (vars.map (rs σ))) st
   rw[rF] at dX
   generalize nW (vars.map (rs σ))=R at *
   generalize (bL (vars.map (rs σ)) []).length=m at *
   simp -implicitDefEqProofs only[hge,eG,pC,iN,GJ,lV,eS,vR,aF,aA,seval,wN]
   refine(aYQ _).to ?_
   simp -implicitDefEqProofs only[aA,↓aU,seval,wN]
   refine wP [(1,1),(0,2),(2,2),(3,2),(4,0),(5,1)] [1,0,2,3,5] mixed ?_
   simp -implicitDefEqProofs only[aA,seval,wN]
   refine iD (dX _) ?_
   simp -implicitDefEqProofs only[aK,aA,seval,wN]
   refine⟨st,(aM.refl _).aC h4,rfl,R,?_,fun x h=>?_⟩
   · rw[qA]
     simp only[kO,k7,sZ,rK,bA,aW]
     by_cases h:m≤26
     · simp [h]
     · simp [h]
   · rw[qA] at h
     split at h
     · cases h;rfl
     · cases h
end Go.AW
