import Derived.Test.YthigelfjekcbmaaGreatDoorUzk
import Derived.Test.YthigelfjekcbmaaGreatDoorUzl
import Derived.Test.YthigelfjekcbmaaGreatDoorUzi
import Derived.Test.YthigelfjekcbmaaGreatDoorUzf
import Derived.Lib.SliceRun
set_option linter.unusedSimpArgs false
set_option linter.unusedVariables false
set_option maxRecDepth 100000
namespace Go.AW
open Go.Proofs.Tryz
abbrev aRH:=zi tI_3 (zi zI_3 (zi aU (zi tI_40 (zi zI_40 (zi dT (zi fJ (zi fK (zi fU (zi tI_52 (zi zI_52 (zi bU (zi bV (zi bX (zi bY (zi bT (zi tI_91 zI_91))))))))))))))))
theorem aAS(bs:List Bt)(c p:Nat)(st:aB)(hp:p+5000≤1099511627776)(hR:cW st c bs p):aD prog 145 [.ptr c 0] st (Dr bs c p 5000 st QH):=by
 refine aD.kS ?_
 refine wF [1000000] 1 func145 ntmps145 rfl rfl ?_
 intro _
 simp -implicitDefEqProofs only[aA,seval,aRH]
 intro b hb
 have hbc:=hR.ne hb
 refine(nO [3,2,4,1] (by simp) (by simp) bs c p (by omega) _ (hR.aC hbc)).mono ?_
 rintro _ _ ⟨y,hy,rfl,rfl⟩
 obtain⟨n,rfl,hn⟩:∃n:Nat,y=n∧n≤4:=by
  simp only[dB,dV,eA] at hy
  rcases hy with rfl | rfl | rfl | rfl
  · exact⟨3,rfl,by omega⟩
  · exact⟨2,rfl,by omega⟩
  · exact⟨4,rfl,by omega⟩
  · exact⟨1,rfl,by omega⟩
 have hpw:4 ^ (n+2)≤4096:=by
  have:=QT (n:=4) (by omega) (show n+2≤6 by omega)
  simpa using this
 simp -implicitDefEqProofs only[aA,seval]
 refine(aAO bs c n (p+1) _ (by omega) (by omega) cW.new).mono ?_
 rintro _ _ ⟨p1,hp1,a2N,rfl,t1,ht1,rfl⟩
 rw[cK]
 simp -implicitDefEqProofs only[b9,cH,eW (b9 _),eU (aY _),aK,hbc,aA,seval,aRH]
 refine⟨st.aC c (b7 bs p1),?_,p1,by omega,by omega,rfl,t1,ht1,rfl⟩
 intro x
 by_cases e4:x=b<;>by_cases ec:x=c<;>simp_all [aB.aC]
mutual
def Tm.sh(m:Int):Tm→Tm
 | .mk k n s ts=>.mk k (if k=1 then IntKind.i64.wrap (n+m) else n) s (PV m ts)
def PV(m:Int):List Tm→List Tm
 | []=>[]
 | t::ts=>t.sh m::PV m ts
end
theorem aSN(m:Int):∀ts:List Tm,PV m ts=ts.map (Tm.sh m)
 | []=>rfl
 | t::ts=>by simp only[PV,bB,aSN m ts]
theorem Tm.WL(m k n:Int)(s:ByteArray)(ts:List Tm):(Tm.mk k n s ts).sh m=.mk k (if k=1 then IntKind.i64.wrap (n+m) else n) s (ts.map (Tm.sh m)):=by simp only[Tm.sh,aSN]
abbrev rE:=zi tI_3 (zi zI_3 (zi aU (zi tI_9 (zi zI_9 (zi cT (zi tI_28 (zi zI_28 (zi aO (zi bF (zi bG (zi bZ (zi tI_52 (zi zI_52 (zi bU (zi bV (zi bX (zi bY bT)))))))))))))))))
theorem SC(m:Int):∀(t:Tm) (st:aB),t.small=true→aD prog 199 [t.av,.int .i64 m] st (fun r st'=>r=(t.sh m).av∧st'=st)
 | .mk k n s ts,st,hsm=>by
  obtain⟨hlen,qV⟩:=Tm.rC hsm
  have IH:=fun(x:Tm) (hx:x∈ts) st=>SC m x st (qV x hx)
  refine aD.qM (aD.fin ?_)
  simp only[a8]
  refine wF [1000000,5] 2 func199 ntmps199 rfl rfl ?_
  simp only[eQ,AV.fits,eR,aF]
  intro ⟨_,_,_,hl,_⟩
  simp -implicitDefEqProofs only[aK,aA,↓aS,seval,rE]
  intro b2 hb2 c hc
  have hne:c≠b2:=by rintro rfl;rw[aB.aJ] at hc;cases hc
  have hn2:st c=none:=by rw[aB.aG st _ hne] at hc;exact hc
  have mW:b2≠c:=dG hne
  have hS:(st.aC b2 (.cells [AV.int .i64 0,AV.int .i64 0,AV.str ⟨#[]⟩,AV.fslice []])) b2≠none:=by rw[aB.aJ];simp
  refine aQ (fun h=>?_) (fun h=>?_)
  · simp only[bK] at h
    simp -implicitDefEqProofs only[aK,cK,aA,seval,rE]
    refine eL (σ:=Nat) [1000000] [1,2,4,5] ts (fun i b=>(((ts.take i).map (Tm.sh m)).map Tm.av≠[]→(aB.aC (st.aC b2 (.cells [AV.int .i64 0,AV.int .i64 0,AV.str ⟨#[]⟩,AV.fslice []])) c (.cells ([AV.int .i64 k,AV.int .i64 (IntKind.i64.wrap (n+m)),AV.str s]++ [aZ 4 b (((ts.take i).map (Tm.sh m)).map Tm.av)]))) b=none)) (fun i b=>[(6,.int .i64 i)]) (fun i b=>fX (st.aC b2 (.cells [AV.int .i64 0,AV.int .i64 0,AV.str ⟨#[]⟩,AV.fslice []])) c b [AV.int .i64 k,AV.int .i64 (IntKind.i64.wrap (n+m)),AV.str s] (((ts.take i).map (Tm.sh m)).map Tm.av)) (by decide +kernel)
     ⟨0,fun h=>absurd rfl h,aP.mk (by simp -implicitDefEqProofs only[aA,↓aS,seval])⟩ (fun i x b hx hlt bR hdr hinv=>?_) (fun b hge hinv=>?_)
    case refine_1=>
     have hw:=bO (n:=(i:Int)+1)
     have c8:(((ts.take i).map (Tm.sh m)).map Tm.av).length=i:=by simp only[aF,eC];omega
     have htk:(ts.take (i+1)).map (Tm.sh m)=(ts.take i).map (Tm.sh m)++ [(Tm.sh m) x]:=by rw[gC,hx];simp
     have hbo:=fA hinv
     simp -implicitDefEqProofs only[aF,bR,aA,seval,rE]
     refine wP [(0,1),(2,1),(4,1),(7,1),(1,2),(3,2),(5,1),(6,2),(8,2),(9,1),(10,0),(11,1),(12,0)] [0,2,4,7,1,3,5,6,8,9,11] mixed ?_
     simp -implicitDefEqProofs only[bQ (av:=Tm.av) aO hx (aM x),aY,aM,hbo,mP,iA,aA,seval,rE]
     refine j6 (IH x (dA hx) _) ?_
     simp -implicitDefEqProofs only[aY,aM,cP,iA,aA,seval,rE]
     refine eE aO bF bG rfl rfl (fL (aM _) (cH _)) (d9 _) hinv (by simp only[c8,aT,aX];omega) (by simp only[c8,aT,aX];omega) (fun b' hb'=>?_)
     rw[show(((ts.take i).map (Tm.sh m)).map Tm.av)++ [((Tm.sh m) x).av]=((ts.take (i+1)).map (Tm.sh m)).map Tm.av by rw[htk];simp] at hb' ⊢
     obtain⟨g1,g2,g3⟩:=p7 hb'
     simp only[fE,eD] at g1 g3
     simp -implicitDefEqProofs only[g3,mQ,fH,aK,g1,hw,aK,aA,seval,rE]
     exact⟨b',g2,aP.mk (by simp -implicitDefEqProofs only[aA,seval])⟩
    have hbo:=fA hinv
    rw[fG] at hinv hbo ⊢
    simp -implicitDefEqProofs only[aF,hge,aA,seval,rE]
    simp -implicitDefEqProofs only[hbo,aK,aA,seval,rE]
    have h1:=iE hinv hS mW
    rw[aB.aJ] at h1
    simp -implicitDefEqProofs only[h1,fH,aA,seval]
    obtain⟨h2,h3⟩:=lK (o:=.cells [AV.int .i64 k,AV.int .i64 (IntKind.i64.wrap (n+m)),AV.str s,aZ 4 b ((ts.map (Tm.sh m)).map Tm.av)]) hinv hS mW
    refine⟨b,_,_,h2,h3,jJ _,⟨4,d9 _⟩,?_,(((aL.refl _).aC hb2).aC hn2).aC hb2⟩
    simp only[gG,bB,aW,eS,kA,jE,←a8]
    rw[Tm.WL,aH h]
  · simp only[dL] at h
    simp -implicitDefEqProofs only[aA,seval]
    refine eL (σ:=Nat) [1000000] [1,2,4,5] ts (fun i b=>(((ts.take i).map (Tm.sh m)).map Tm.av≠[]→(aB.aC (st.aC b2 (.cells [AV.int .i64 0,AV.int .i64 0,AV.str ⟨#[]⟩,AV.fslice []])) c (.cells ([AV.int .i64 k,AV.int .i64 (n),AV.str s]++ [aZ 4 b (((ts.take i).map (Tm.sh m)).map Tm.av)]))) b=none)) (fun i b=>[(6,.int .i64 i)]) (fun i b=>fX (st.aC b2 (.cells [AV.int .i64 0,AV.int .i64 0,AV.str ⟨#[]⟩,AV.fslice []])) c b [AV.int .i64 k,AV.int .i64 (n),AV.str s] (((ts.take i).map (Tm.sh m)).map Tm.av)) (by decide +kernel)
     ⟨0,fun h=>absurd rfl h,aP.mk (by simp -implicitDefEqProofs only[aA,↓aS,seval])⟩ (fun i x b hx hlt bR hdr hinv=>?_) (fun b hge hinv=>?_)
    case refine_1=>
     have hw:=bO (n:=(i:Int)+1)
     have c8:(((ts.take i).map (Tm.sh m)).map Tm.av).length=i:=by simp only[aF,eC];omega
     have htk:(ts.take (i+1)).map (Tm.sh m)=(ts.take i).map (Tm.sh m)++ [(Tm.sh m) x]:=by rw[gC,hx];simp
     have hbo:=fA hinv
     simp -implicitDefEqProofs only[aF,bR,aA,seval,rE]
     refine wP [(0,1),(2,1),(4,1),(7,1),(1,2),(3,2),(5,1),(6,2),(8,2),(9,1),(10,0),(11,1),(12,0)] [0,2,4,7,1,3,5,6,8,9,11] mixed ?_
     simp -implicitDefEqProofs only[bQ (av:=Tm.av) aO hx (aM x),aY,aM,hbo,mP,iA,aA,seval,rE]
     refine j6 (IH x (dA hx) _) ?_
     simp -implicitDefEqProofs only[aY,aM,cP,iA,aA,seval,rE]
     refine eE aO bF bG rfl rfl (fL (aM _) (cH _)) (d9 _) hinv (by simp only[c8,aT,aX];omega) (by simp only[c8,aT,aX];omega) (fun b' hb'=>?_)
     rw[show(((ts.take i).map (Tm.sh m)).map Tm.av)++ [((Tm.sh m) x).av]=((ts.take (i+1)).map (Tm.sh m)).map Tm.av by rw[htk];simp] at hb' ⊢
     obtain⟨g1,g2,g3⟩:=p7 hb'
     simp only[fE,eD] at g1 g3
     simp -implicitDefEqProofs only[g3,mQ,fH,aK,g1,hw,aK,aA,seval,rE]
     exact⟨b',g2,aP.mk (by simp -implicitDefEqProofs only[aA,seval])⟩
    have hbo:=fA hinv
    rw[fG] at hinv hbo ⊢
    simp -implicitDefEqProofs only[aF,hge,aA,seval,rE]
    simp -implicitDefEqProofs only[hbo,aK,aA,seval,rE]
    have h1:=iE hinv hS mW
    rw[aB.aJ] at h1
    simp -implicitDefEqProofs only[h1,fH,aA,seval]
    obtain⟨h2,h3⟩:=lK (o:=.cells [AV.int .i64 k,AV.int .i64 (n),AV.str s,aZ 4 b ((ts.map (Tm.sh m)).map Tm.av)]) hinv hS mW
    refine⟨b,_,_,h2,h3,jJ _,⟨4,d9 _⟩,?_,(((aL.refl _).aC hb2).aC hn2).aC hb2⟩
    simp only[gG,bB,aW,eS,kA,jE,←a8]
    rw[Tm.WL,aE h]
termination_by t=>SizeOf.sizeOf t
decreasing_by have:=List.sizeOf_lt_of_mem hx;simp only[Tm.mk.sizeOf_spec];omega
abbrev DR:=zi tI_3 (zi zI_3 (zi aU (zi tI_9 (zi zI_9 (zi cT (zi tI_28 (zi zI_28 (zi aO (zi bF (zi bG (zi bZ (zi tI_52 (zi zI_52 (zi bU (zi bV (zi bX (zi bY bT)))))))))))))))))
theorem aWT(k n:Int)(s:ByteArray)(ts:List Tm)(st:aB)(hsm:(Tm.mk k n s ts).small=true):aD prog 112 [(Tm.mk k n s ts).av] st (fun r st'=>∃b,r=.agg [.int .i64 k,.int .i64 n,.str s,aZ 4 b (ts.map Tm.av)]∧st'=aV st b (ts.map Tm.av)∧(ts.map Tm.av≠[]→st b=none)):=by
 obtain⟨hlen,qV⟩:=Tm.rC hsm
 have IH:=fun(x:Tm) (hx:x∈ts) st=>zO x st (qV x hx)
 refine aD.kS ?_
 simp only[a8]
 refine wF [] 1 func112 ntmps112 rfl rfl ?_
 simp only[eQ,AV.fits,eR,aF]
 intro ⟨_,_,_,hl,_⟩
 simp -implicitDefEqProofs only[aA,seval,DR]
 intro b2 hb2 c hc
 have hne:c≠b2:=by rintro rfl;rw[aB.aJ] at hc;cases hc
 have hn2:st c=none:=by rw[aB.aG st _ hne] at hc;exact hc
 simp -implicitDefEqProofs only[aK,aA,seval]
 refine eL (σ:=Nat) [] [1,2,3] ts (fun i b=>(((ts.take i).map (fun y=>y)).map Tm.av≠[]→(aB.aC (st.aC b2 (.cells [AV.int .i64 0,AV.int .i64 0,AV.str ⟨#[]⟩,AV.fslice []])) c (.cells ([AV.int .i64 k,AV.int .i64 n,AV.str s]++ [aZ 4 b (((ts.take i).map (fun y=>y)).map Tm.av)]))) b=none)) (fun i b=>[(4,.int .i64 i)]) (fun i b=>fX (st.aC b2 (.cells [AV.int .i64 0,AV.int .i64 0,AV.str ⟨#[]⟩,AV.fslice []])) c b [AV.int .i64 k,AV.int .i64 n,AV.str s] (((ts.take i).map (fun y=>y)).map Tm.av)) (by decide +kernel)
  ⟨0,fun h=>absurd rfl h,aP.mk (by simp -implicitDefEqProofs only[aA,↓aS,seval])⟩ (fun i x b hx hlt bR hdr hinv=>?_) (fun b hge hinv=>?_)
 case refine_1=>
  have hw:=bO (n:=(i:Int)+1)
  have c8:(((ts.take i).map (fun y=>y)).map Tm.av).length=i:=by simp only[aF,eC];omega
  have htk:(ts.take (i+1)).map (fun y=>y)=(ts.take i).map (fun y=>y)++ [(fun y=>y) x]:=by rw[gC,hx];simp
  have hbo:=fA hinv
  simp -implicitDefEqProofs only[aF,bR,aA,seval,DR]
  refine wP [(0,1),(2,1),(4,1),(1,2),(3,2),(5,1),(6,2),(7,2),(8,1),(9,0),(10,1),(11,0)] [0,2,4,1,3,5,6,7,8,10] mixed ?_
  simp -implicitDefEqProofs only[bQ (av:=Tm.av) aO hx (aM x),aY,aM,hbo,mP,iA,aA,seval,DR]
  refine j6 (IH x (dA hx) _) ?_
  simp -implicitDefEqProofs only[aY,aM,cP,iA,aA,seval,DR]
  refine eE aO bF bG rfl rfl (fL (aM _) (cH _)) (d9 _) hinv (by simp only[c8,aT,aX];omega) (by simp only[c8,aT,aX];omega) (fun b' hb'=>?_)
  rw[show(((ts.take i).map (fun y=>y)).map Tm.av)++ [((fun y=>y) x).av]=((ts.take (i+1)).map (fun y=>y)).map Tm.av by rw[htk];simp] at hb' ⊢
  obtain⟨g1,g2,g3⟩:=p7 hb'
  simp only[fE,eD] at g1 g3
  simp -implicitDefEqProofs only[g3,mQ,fH,aK,g1,hw,aA,seval,DR]
  exact⟨b',g2,aP.mk (by simp -implicitDefEqProofs only[aA,seval])⟩
 have hbo:=fA hinv
 rw[fG] at hinv hbo ⊢
 simp -implicitDefEqProofs only[aF,hge,aA,seval,DR]
 simp -implicitDefEqProofs only[hbo,aA,seval,DR]
 have mW:b2≠c:=dG hne
 have hS:(st.aC b2 (.cells [AV.int .i64 0,AV.int .i64 0,AV.str ⟨#[]⟩,AV.fslice []])) b2≠none:=by rw[aB.aJ];simp
 have h1:=iE hinv hS mW
 rw[aB.aJ] at h1
 simp -implicitDefEqProofs only[h1,fH,aK,aA,seval]
 obtain⟨h2,h3⟩:=lK (o:=.cells [AV.int .i64 k,AV.int .i64 n,AV.str s,aZ 4 b ((ts.map fun y=>y).map Tm.av)]) hinv hS mW
 simp only[fE,eD] at h2 h3
 rw[h2]
 have D:∀o o' o'',aL (((st.aC b2 o).aC c o').aC b2 o'') st:=fun o o' o''=>(((aL.refl _).aC hb2).aC hn2).aC hb2
 simp only[List.map_id'] at h3 ⊢
 exact⟨_,S5 (D _ _ _),b,rfl,rfl,fun h=>(D _ _ _ b).1 (h3 h)⟩
abbrev nW:=zi tI_3 (zi zI_3 (zi aU (zi tI_9 (zi zI_9 (zi cT (zi tI_28 (zi zI_28 (zi aO (zi bF (zi bG (zi bZ (zi tI_40 (zi zI_40 (zi dT (zi fJ (zi fK (zi fU (zi tI_52 (zi zI_52 (zi bU (zi bV (zi bX (zi bY (zi bT (zi tI_91 (zi zI_91 (zi tI_138 (zi zI_138 (zi j9 (zi nQ (zi nR oR)))))))))))))))))))))))))))))))
theorem SA(bs:List Bt)(c p:Nat)(t:Tm)(hsm:t.small=true)(st:aB)(hp:p+10≤1099511627776)(hR:cW st c bs p) :
 aD prog 120 [.ptr c 0,t.av] st (Dr bs c p 10 st (fun r=>∃t:Tm,r=t.av)):=by
 obtain⟨k,n,s,ts⟩:=t
 refine aD.kS (aD.fin ?_)
 refine wF [1000000,5] 2 func120 ntmps120 rfl rfl ?_
 intro _
 simp -implicitDefEqProofs only[aA,seval,nW]
 intro b4 h4
 have h4c:=hR.ne h4
 have hR':=fun o=>hR.aC (o:=o) h4c
 refine(aWT k n s ts _ hsm).mono ?_
 rintro _ _ ⟨b,rfl,rfl,hb⟩
 simp -implicitDefEqProofs only[fH,aK,aA,↓aS,seval,nW]
 intro b5 h5
 obtain⟨hn5,hb5⟩:=ER h5
 have h54:b5≠b4:=by rintro rfl;rw[aB.aJ] at hn5;cases hn5
 have UU:st b5=none:=by rw[aB.aG _ _ h54] at hn5;exact hn5
 have h5c:b5≠c:=hR.ne UU
 have hW4:∀q,((st.aC b4 (.cells [.int .i64 0,.int .i64 0,.str ⟨#[]⟩,.fslice []])).aC c (b7 bs q)) b4=some (.cells [.int .i64 0,.int .i64 0,.str ⟨#[]⟩,.fslice []]):=fun q=>by rw[aB.aG _ _ h4c,aB.aJ]
 have hdr:∀q Z Y,aL ((((st.aC b4 (.cells [.int .i64 0,.int .i64 0,.str ⟨#[]⟩,.fslice []])).aC c (b7 bs q)).aC b5 Z).aC b4 Y) (st.aC c (b7 bs q)):=fun q Z Y x=>by
  by_cases e4:x=b4<;>by_cases ec:x=c<;>by_cases e5:x=b5<;>simp_all [aB.aC]
 have e0:(aV (st.aC b4 (.cells [.int .i64 0,.int .i64 0,.str ⟨#[]⟩,.fslice []])) b (ts.map Tm.av)).aC b5 (.cells [.int .i64 k,.int .i64 n,.str s,aZ 4 b (ts.map Tm.av)])=fX (st.aC b4 (.cells [.int .i64 0,.int .i64 0,.str ⟨#[]⟩,.fslice []])) b5 b [.int .i64 k,.int .i64 n,.str s] (ts.map Tm.av):=by
  rw[lQ hb5];try rfl
 have i0:ts.map Tm.av≠[]→((st.aC b4 (.cells [.int .i64 0,.int .i64 0,.str ⟨#[]⟩,.fslice []])).aC b5 (.cells ([.int .i64 k,.int .i64 n,.str s]++ [aZ 4 b (ts.map Tm.av)]))) b=none:=fun h=>by
  rw[aB.aG _ _ (dG (hb5 h))];exact hb h
 have hUc:(st.aC b4 (.cells [.int .i64 0,.int .i64 0,.str ⟨#[]⟩,.fslice []])) c≠none:=by rw[hR' _];simp
 rw[e0]
 have hRk:cW (fX (st.aC b4 (.cells [.int .i64 0,.int .i64 0,.str ⟨#[]⟩,.fslice []])) b5 b [.int .i64 k,.int .i64 n,.str s] (ts.map Tm.av)) c bs p:=by
  unfold cW
  rw[iE i0 hUc h5c.symm]
  exact hR' _
 refine(mS bs c p (by omega) 50 (by omega) (by omega) _ hRk).mono ?_
 rintro _ _ ⟨j,hj,rfl,rfl⟩
 obtain⟨e1,i1⟩:=r0 (o:=b7 bs (p+1)) i0 hUc h5c.symm
 rw[e1]
 have hWc:∀q,((st.aC b4 (.cells [.int .i64 0,.int .i64 0,.str ⟨#[]⟩,.fslice []])).aC c (b7 bs q)) c≠none:=fun q=>by rw[aB.aJ];simp
 have hRq:∀q (hd l:List AV),(l≠[]→(((st.aC b4 (.cells [.int .i64 0,.int .i64 0,.str ⟨#[]⟩,.fslice []])).aC c (b7 bs q)).aC b5 (.cells (hd++ [aZ 4 b l]))) b=none)→cW (fX ((st.aC b4 (.cells [.int .i64 0,.int .i64 0,.str ⟨#[]⟩,.fslice []])).aC c (b7 bs q)) b5 b hd l) c bs q:=fun q hd l hi=>by
  unfold cW
  rw[iE hi (hWc q) h5c.symm,aB.aJ]
  try rfl
 clear e0 i0 hRk e1
 simp -implicitDefEqProofs only[aA,seval]
 refine aQ (fun h0=>?_) (fun h0=>?_)
 · simp -implicitDefEqProofs only[aA,seval,nW]
   refine(nO [0,4,1,2,3] (by simp) (by simp) bs c (p+1) (by omega) _ (hRq _ _ _ i1)).mono ?_
   rintro _ _ ⟨y,_,rfl,rfl⟩
   obtain⟨e1,i1⟩:=r0 (o:=b7 bs (p+1+1)) i1 (hWc _) h5c.symm
   rw[cK] at e1 i1
   rw[e1]
   have hbo:=fA i1
   obtain⟨e2,i1⟩:=JU (hd':=[.int .i64 y,.int .i64 n,.str s]) i1
   simp only[fE,eD] at e2
   simp -implicitDefEqProofs only[aK,hbo,aA,seval,nW]
   rw[e2]
   have hbo:=fA i1
   have h4o:=iE i1 (x:=b4) (by rw[hW4];simp) h54.symm
   rw[hW4] at h4o
   simp -implicitDefEqProofs only[h4o,fH,aA,seval]
   obtain⟨g5,g6⟩:=lK (o:=.cells [.int .i64 (y),.int .i64 (n),.str (s),aZ 4 b ((ts).map Tm.av)]) i1 (show((st.aC b4 (.cells [.int .i64 0,.int .i64 0,.str ⟨#[]⟩,.fslice []])).aC c (b7 bs (p+1+1))) b4≠none by rw[hW4];simp) h54.symm
   refine⟨b,_,_,g5,g6,jJ _,⟨4,d9 _⟩,st.aC c (b7 bs (p+1+1)),hdr _ _ _,p+1+1,by omega,by omega,rfl,.mk (y) (n) (s) (ts),?_⟩
   simp only[gG,bB,aW,eS,kA,jE,a8]
 simp -implicitDefEqProofs only[aA,seval]
 refine aQ (fun h0=>?_) (fun h0=>?_)
 · simp -implicitDefEqProofs only[aA,seval,nW]
   refine(nO [26,1000,-1000,-1,1] (by simp) (by simp) bs c (p+1) (by omega) _ (hRq _ _ _ i1)).mono ?_
   rintro _ _ ⟨y,_,rfl,rfl⟩
   obtain⟨e1,i1⟩:=r0 (o:=b7 bs (p+1+1)) i1 (hWc _) h5c.symm
   rw[cK] at e1 i1
   rw[e1]
   have hbo:=fA i1
   obtain⟨e2,i1⟩:=JU (hd':=[.int .i64 k,.int .i64 y,.str s]) i1
   simp only[fE,eD] at e2
   simp -implicitDefEqProofs only[aK,hbo,aA,seval,nW]
   rw[e2]
   have hbo:=fA i1
   have h4o:=iE i1 (x:=b4) (by rw[hW4];simp) h54.symm
   rw[hW4] at h4o
   simp -implicitDefEqProofs only[h4o,fH,aA,seval]
   obtain⟨g5,g6⟩:=lK (o:=.cells [.int .i64 (k),.int .i64 (y),.str (s),aZ 4 b ((ts).map Tm.av)]) i1 (show((st.aC b4 (.cells [.int .i64 0,.int .i64 0,.str ⟨#[]⟩,.fslice []])).aC c (b7 bs (p+1+1))) b4≠none by rw[hW4];simp) h54.symm
   refine⟨b,_,_,g5,g6,jJ _,⟨4,d9 _⟩,st.aC c (b7 bs (p+1+1)),hdr _ _ _,p+1+1,by omega,by omega,rfl,.mk (k) (y) (s) (ts),?_⟩
   simp only[gG,bB,aW,eS,kA,jE,a8]
 simp -implicitDefEqProofs only[aA,seval]
 refine aQ (fun h0=>?_) (fun h0=>?_)
 · simp -implicitDefEqProofs only[aA,seval,nW]
   refine(H8 [⟨#[]⟩,⟨#[88]⟩,⟨#[116,111,111,108,111,110,103]⟩,⟨#[195,169]⟩,⟨#[97]⟩] (by simp) (by simp) bs c (p+1) (by omega) _ (hRq _ _ _ i1)).mono ?_
   rintro _ _ ⟨y,_,rfl,rfl⟩
   obtain⟨e1,i1⟩:=r0 (o:=b7 bs (p+1+1)) i1 (hWc _) h5c.symm
   rw[cK] at e1 i1
   rw[e1]
   have hbo:=fA i1
   obtain⟨e2,i1⟩:=JU (hd':=[.int .i64 k,.int .i64 n,.str y]) i1
   simp only[fE,eD] at e2
   simp -implicitDefEqProofs only[aK,hbo,aA,seval,nW]
   rw[e2]
   have hbo:=fA i1
   have h4o:=iE i1 (x:=b4) (by rw[hW4];simp) h54.symm
   rw[hW4] at h4o
   simp -implicitDefEqProofs only[h4o,fH,aA,seval]
   obtain⟨g5,g6⟩:=lK (o:=.cells [.int .i64 (k),.int .i64 (n),.str (y),aZ 4 b ((ts).map Tm.av)]) i1 (show((st.aC b4 (.cells [.int .i64 0,.int .i64 0,.str ⟨#[]⟩,.fslice []])).aC c (b7 bs (p+1+1))) b4≠none by rw[hW4];simp) h54.symm
   refine⟨b,_,_,g5,g6,jJ _,⟨4,d9 _⟩,st.aC c (b7 bs (p+1+1)),hdr _ _ _,p+1+1,by omega,by omega,rfl,.mk (k) (n) (y) (ts),?_⟩
   simp only[gG,bB,aW,eS,kA,jE,a8]
 simp -implicitDefEqProofs only[aA,seval]
 refine aQ (fun h0=>?_) (fun h0=>?_)
 · simp -implicitDefEqProofs only[aA,seval]
   refine iT (σ:=Nat×List Tm) [1000000,5] [4,5,10] (fun x=>(x.2.map Tm.av≠[]→(aB.aC ((st.aC b4 (.cells [.int .i64 0,.int .i64 0,.str ⟨#[]⟩,.fslice []])).aC c (b7 bs (p+1))) b5 (.cells ([.int .i64 k,.int .i64 n,.str s]++ [aZ 4 x.1 (x.2.map Tm.av)]))) x.1=none)) (fun _=>[]) (fun x=>fX ((st.aC b4 (.cells [.int .i64 0,.int .i64 0,.str ⟨#[]⟩,.fslice []])).aC c (b7 bs (p+1))) b5 x.1 [.int .i64 k,.int .i64 n,.str s] (x.2.map Tm.av)) (fun x=>5 - x.2.length) (by decide +kernel) ⟨(b,ts),i1,aP.mk (by simp -implicitDefEqProofs only[aA,seval])⟩ ?_
   rintro⟨b,acc⟩ i1
   simp only at i1
   have hbo:=fA i1
   have haL:=vO (w:=4) (b:=b) (l:=acc.map Tm.av) bZ
   simp -implicitDefEqProofs only[hbo,mP,haL,aF,aA,seval,nW]
   refine aQ (fun h1=>?_) (fun h1=>?_)
   · simp only[bK] at h1
     have c8:(acc.map Tm.av).length≤4:=by rw[aF];omega
     simp -implicitDefEqProofs only[aA,seval]
     refine vF [(0,1),(1,1),(2,0),(3,1),(4,0),(5,1),(6,2)] [0,1,3,5] (dQ.aC b5 (.cells [.int .i64 k,.int .i64 n,.str s,aZ 4 b (acc.map Tm.av)])) mixed (by decide +kernel) (by decide +kernel) (by decide +kernel) rfl (eV hbo) ?_
     simp -implicitDefEqProofs only[mP,aA,seval,nW]
     refine(EZ 1 _).to ?_
     simp -implicitDefEqProofs only[aY,aM,cP,aA,seval,nW]
     refine⟨eV hbo,?_⟩
     refine eE aO bF bG rfl rfl (fL (aM _) (cH _)) (d9 _) i1 (by simp only[aT,aX];omega) (by simp only[aT,aX];omega) (fun b' hb'=>?_)
     rw[show acc.map Tm.av++ [(Tm.mk 2 1 ⟨#[]⟩ []).av]=(acc++ [Tm.mk 2 1 ⟨#[]⟩ []]).map Tm.av by simp] at hb' ⊢
     obtain⟨g1,g2,g3⟩:=p7 hb'
     simp only[fE,eD] at g1 g3
     simp -implicitDefEqProofs only[aK,fH,mQ,aA,seval,nW]
     refine⟨eV g3,?_⟩
     simp -implicitDefEqProofs only[g3,g1,aA,seval]
     refine⟨(b',acc++ [Tm.mk 2 1 ⟨#[]⟩ []]),by simp only[dW,aT,aX];omega,g2,aP.mk (by simp -implicitDefEqProofs only[aA,seval])⟩
   · simp -implicitDefEqProofs only[aK,hbo,fH,aA,seval,nW]
     have hbo:=fA i1
     have h4o:=iE i1 (x:=b4) (by rw[hW4];simp) h54.symm
     rw[hW4] at h4o
     simp -implicitDefEqProofs only[h4o,aA,seval]
     obtain⟨g5,g6⟩:=lK (o:=.cells [.int .i64 (k),.int .i64 (n),.str (s),aZ 4 b ((acc).map Tm.av)]) i1 (show((st.aC b4 (.cells [.int .i64 0,.int .i64 0,.str ⟨#[]⟩,.fslice []])).aC c (b7 bs (p+1))) b4≠none by rw[hW4];simp) h54.symm
     refine⟨b,_,_,g5,g6,jJ _,⟨4,d9 _⟩,st.aC c (b7 bs (p+1)),hdr _ _ _,p+1,by omega,by omega,rfl,.mk (k) (n) (s) (acc),?_⟩
     simp only[gG,bB,aW,eS,kA,jE,a8]
 simp -implicitDefEqProofs only[aA,seval]
 refine aQ (fun h0=>?_) (fun h0=>?_)
 · simp -implicitDefEqProofs only[aA,seval]
   have hW5:∀Z,((st.aC b4 (.cells [.int .i64 0,.int .i64 0,.str ⟨#[]⟩,.fslice []])).aC c (b7 bs (p+1))).aC b5 Z b4=some (.cells [.int .i64 0,.int .i64 0,.str ⟨#[]⟩,.fslice []]):=fun Z=>by rw[aB.aG _ _ h54.symm,hW4]
   refine eL (σ:=Tm) [1000000,5] [4,5] (List.range 30) (fun _ _=>True) (fun i _=>[(6,.int .i64 i)]) (fun _ u=>((st.aC b4 (.cells [.int .i64 0,.int .i64 0,.str ⟨#[]⟩,.fslice []])).aC c (b7 bs (p+1))).aC b5 (.cells u.av.cells)) (by decide +kernel)
    ⟨.mk k n s ts,trivial,?_⟩ (fun i x u hx hlt bR CV _=>?_) (fun u hge _=>?_)
   · rw[a8]
     exact(a30 i1 (jJ _) ⟨4,d9 _⟩).trans (fV.lB (by simp -implicitDefEqProofs only[aA,↓aS,seval]))
   · rw[LN] at hlt
     have a2A:decide ((i:Int)<30)=true:=by simp;omega
     have hw:=bO (n:=(i:Int)+1)
     simp -implicitDefEqProofs only[a2A,b9,aY,aM,cP,eW (b9 _),eU (aY _),aA,seval,nW]
     refine(t9 ⟨#[115]⟩ [u] (by simp) _).to ?_
     simp -implicitDefEqProofs only[cK,aK,hw,b9,cH,aA,seval,nW]
     exact⟨.mk 3 0 ⟨#[115]⟩ [u],aP.mk (by simp -implicitDefEqProofs only[aA,seval])⟩
   · have a1V:decide ((29:Int)+1<30)=false:=rfl
     have h4o:=hW5 (.cells u.av.cells)
     simp -implicitDefEqProofs only[LN,aK,h4o,b9,cH,eW (b9 _),eU (aY _),aA,↓aS,seval,nW]
     exact⟨0,[],_,rfl,by simp,by simp,⟨4,by simp⟩,st.aC c (b7 bs (p+1)),hdr _ _ _,p+1,by omega,by omega,rfl,u,Tm.xJ u 0⟩
 · simp -implicitDefEqProofs only[aA,seval,nW]
   have hbo:=fA i1
   have h4o:=iE i1 (x:=b4) (by rw[hW4];simp) h54.symm
   rw[hW4] at h4o
   simp -implicitDefEqProofs only[aK,hbo,h4o,fH,aA,seval,nW]
   obtain⟨g5,g6⟩:=lK (o:=.cells [.int .i64 (k),.int .i64 (n),.str (s),aZ 4 b ((ts).map Tm.av)]) i1 (show((st.aC b4 (.cells [.int .i64 0,.int .i64 0,.str ⟨#[]⟩,.fslice []])).aC c (b7 bs (p+1))) b4≠none by rw[hW4];simp) h54.symm
   refine⟨b,_,_,g5,g6,jJ _,⟨4,d9 _⟩,st.aC c (b7 bs (p+1)),hdr _ _ _,p+1,by omega,by omega,rfl,.mk (k) (n) (s) (ts),?_⟩
   simp only[gG,bB,aW,eS,kA,jE,a8]
abbrev aRE:=zi tI_3 (zi zI_3 (zi aU (zi tI_27 (zi zI_27 (zi eH (zi gK (zi gN (zi iJ (zi tI_111 (zi zI_111 (zi kT (zi kU kQ))))))))))))
theorem aVV(l:List Cl)(g:FuncId)(eF:List AV)(p:Cl→Bool)(st:aB)(hc:∀x∈l,aD prog g ([a9 x]++eF) st (fun r st'=>r=.bool (p x)∧st'=st)) :
 aD prog 169 [.slice (l.map a9),.func g eF] st (fun r st'=>∃j:Int,r=.int .i64 j∧decide (0≤j)=l.any p∧st'=st):=by
 refine wF [] 2 func169 ntmps169 rfl rfl ?_
 simp only[eQ,AV.fits,eR,aF]
 intro ⟨hl,_⟩
 simp -implicitDefEqProofs only[aF,aA,seval,aRE]
 refine eL (σ:=Unit) [] [0,1,7] l (fun i _=>(l.drop i).any p=l.any p) (fun i _=>[(8,.int .i64 i)]) (fun _ _=>st) (by decide +kernel) ⟨(),rfl,aP.mk (by simp -implicitDefEqProofs only[aA,↓aS,seval])⟩ (fun i x _ hx hlt bR hdr hinv=>?_) (fun _ hge hinv=>?_)
 case refine_2=>
  simp -implicitDefEqProofs only[hge,aA,seval]
  rw[lH] at hinv
  exact⟨-1,rfl,by rw[←hinv];try rfl⟩
 rw[hdr,EB] at hinv
 have hw:=bO (n:=(i:Int)+1)
 simp -implicitDefEqProofs only[bR,bQ (av:=a9) eH hx (jN x),qL,jN,aA,seval,aRE]
 refine(hc x (dA hx)).to ?_
 simp -implicitDefEqProofs only[aA,seval]
 refine aQ (fun h=>?_) (fun h=>?_)
 · simp -implicitDefEqProofs only[aA,seval]
   exact⟨i,rfl,by rw[←hinv,h];simp⟩
 · rw[h,sH] at hinv
   simp -implicitDefEqProofs only[aA,seval]
   exact⟨(),hinv,aP.mk (by simp -implicitDefEqProofs only[hw,aA,seval])⟩
theorem aVD(l:List Cl)(g:FuncId)(eF:List AV)(p:Cl→Bool)(st:aB)(hc:∀x∈l,aD prog g ([a9 x]++eF) st (fun r st'=>r=.bool (p x)∧st'=st)) :
 aD prog 132 [.slice (l.map a9),.func g eF] st (fun r st'=>r=.bool (l.any p)∧st'=st):=by
 refine wF [] 2 func132 ntmps132 rfl rfl ?_
 intro _
 simp -implicitDefEqProofs only[aA,seval]
 refine(aVV l g eF p st hc).mono ?_
 rintro _ _ ⟨j,rfl,hj,rfl⟩
 simp -implicitDefEqProofs only[hj,aA,seval]
abbrev WW:=zi tI_4 (zi zI_4 (zi cI (zi tI_28 (zi zI_28 (zi aO (zi bF (zi bG (zi bZ (zi tI_52 (zi zI_52 (zi bU (zi bV (zi bX (zi bY (zi bT (zi tI_111 (zi zI_111 (zi kT (zi kU kQ)))))))))))))))))))
theorem aWH(c:Cl)(st:aB):aD prog 134 [a9 c] st (fun r st'=>r=.bool (mC c)∧st'=st):=by
 obtain⟨⟨k,n,s,ts⟩,b⟩:=c
 have hv:=fun st=>aAF (.mk k n s ts) st
 have hp:=fun st=>aAI k n s ts st
 simp only[a8] at hv hp
 have hg:=fun st=>aAD b st
 simp only[gI,mC,VZ]
 simp only[kY] at hg
 generalize (Tm.mk k n s ts).valid=v at *
 refine wF [1000000] 1 func134 ntmps134 rfl rfl ?_
 intro _
 simp -implicitDefEqProofs only[aA,seval,WW]
 refine(hv _).to ?_
 cases v with
 | false=>simp -implicitDefEqProofs only[g9,aA,seval]
 | true=>
  simp -implicitDefEqProofs only[dX,eP,aA,seval,WW]
  refine(hp _).to ?_
  cases hpl:sA k s (ts.length:Int) with
  | false=>simp -implicitDefEqProofs only[g9,aA,seval]
  | true=>
   simp -implicitDefEqProofs only[dX,eP,aA,seval,WW]
   refine(hg _).to ?_
   simp -implicitDefEqProofs only[aA,seval]
abbrev a7C:=zi tI_4 (zi zI_4 (zi cI (zi tI_111 (zi zI_111 (zi kT (zi kU kQ))))))
theorem aV3(c:Cl)(st:aB):aD prog 133 [a9 c] st (fun r st'=>r=.bool (!mC c)∧st'=st):=by
 refine wF [1000000] 1 func133 ntmps133 rfl rfl ?_
 intro _
 simp -implicitDefEqProofs only[E4,qL,jN,aA,seval,a7C]
 refine(aWH c st).to ?_
 simp -implicitDefEqProofs only[aA,seval]
abbrev a7D:=zi tI_3 (zi zI_3 (zi aU (zi tI_4 (zi zI_4 (zi cI (zi tI_27 (zi zI_27 (zi eH (zi gK (zi gN iJ))))))))))
theorem R6(p:List Cl)(st:aB):aD prog 85 [.slice (p.map a9)] st (fun r st'=>r=.bool (oJ p)∧st'=st):=by
 refine wF [1000000] 1 func85 ntmps85 rfl rfl ?_
 simp only[eQ,AV.fits,eR,aF]
 intro _
 unfold oJ
 simp -implicitDefEqProofs only[aF,aA,seval,a7D]
 refine cU (fun h=>?_) (fun h=>?_)
 · simp only[bK] at h
   rw[show decide (p.length≤20)=true by simp;omega]
   simp -implicitDefEqProofs only[h,aA,seval]
   refine(aVD p _ [] (fun t=> !mC t) st fun x _=>aV3 x st).to ?_
   simp -implicitDefEqProofs only[RF,aA,seval]
 · simp only[pM,dL] at h
   rw[show decide (p.length≤20)=false by simp;omega]
   simp -implicitDefEqProofs only[h,aA,seval]
   rfl
abbrev GS:=zi tI_3 (zi zI_3 (zi aU (zi tI_4 (zi zI_4 (zi cI (zi tI_28 (zi zI_28 (zi aO (zi bF (zi bG (zi bZ (zi tI_52 (zi zI_52 (zi bU (zi bV (zi bX (zi bY (zi bT (zi tI_111 (zi zI_111 (zi kT (zi kU kQ))))))))))))))))))))))
theorem aBG(c:Cl)(st:aB):aD prog 125 [a9 c] st (fun r st'=>r=.bool (mC c)∧st'=st):=by
 obtain⟨⟨k,n,s,ts⟩,l⟩:=c
 have hv:=fun st=>SK (.mk k n s ts) st
 have hp:=fun st=>aA1 k n s ts st
 simp only[a8] at hv hp
 simp only[gI,mC,VZ]
 generalize (Tm.mk k n s ts).valid=v at *
 refine wF [1000000] 1 func125 ntmps125 rfl rfl ?_
 simp only[eQ,AV.fits,eR,aF]
 intro ⟨_,_,_,_,hl,_⟩
 have lD:l.all Tm.goal=true∨l.length>6→(decide ((l.length:Int)≤6)&&v&&sA k s (ts.length:Int))=(v&&sA k s (ts.length:Int)&&(decide (l.length≤6)&&l.all Tm.goal)):=fun h=>by
  by_cases h6:l.length≤6
  · have hg:l.all Tm.goal=true:=h.resolve_right (by omega)
    rw[hg,show decide ((l.length:Int)≤6)=true from gJ (by omega),show decide (l.length≤6)=true from gJ h6]
    simp
  · rw[show decide ((l.length:Int)≤6)=false from f0 (by omega),show decide (l.length≤6)=false from f0 h6]
    simp
 simp -implicitDefEqProofs only[aA,seval,GS]
 refine eL (σ:=Unit) [1000000] [1] l (fun i _=>i≤7∧(l.take i).all Tm.goal=true) (fun i _=>[(2,.bool false),(3,.int .i64 i)]) (fun _ _=>st) (by decide +kernel) ⟨(),⟨by omega,by simp⟩,aP.mk (by simp -implicitDefEqProofs only[aA,↓aS,seval])⟩ (fun i x _ hx hlt bR hdr hinv=>?_) (fun _ hge hinv=>?_)
 · obtain⟨i1,i2⟩:=hinv
   have hw:=bO (n:=(i:Int)+1)
   by_cases h7:i≤6
   · have h7':decide ((i:Int)≤6)=true:=gJ (by omega)
     have hat:=bQ (av:=Tm.av) aO hx (aM x)
     simp -implicitDefEqProofs only[bR,bE,dX,aF,h7',hat,aY,aM,aA,seval,GS]
     refine(aBH x st).to ?_
     simp -implicitDefEqProofs only[aA,seval]
     refine aQ (fun h2=>?_) (fun h2=>?_)
     · simp only[lT] at h2
       simp -implicitDefEqProofs only[aA,seval]
       have:l.all Tm.goal=false:=wZ hx h2
       rw[this];simp
     · simp only[qD] at h2
       simp -implicitDefEqProofs only[aA,seval]
       refine⟨(),⟨by omega,?_⟩,aP.mk (by simp -implicitDefEqProofs only[hw,aA,seval])⟩
       rw[gC,hx,EA,i2]
       simp [h2]
   · have h7':decide ((i:Int)≤6)=false:=f0 (by omega)
     have h8:decide ((l.length:Int)≤6)=false:=f0 (by omega)
     rw[←lD (.inr (by omega)),h8]
     simp -implicitDefEqProofs only[bR,bE,dX,h8,g9,aF,h7',aA,seval,GS]
 · obtain⟨i1,i2⟩:=hinv
   rw[fG] at i2
   rw[←lD (.inl i2)]
   cases h8:decide ((l.length:Int)≤6) with
   | false=>
    simp -implicitDefEqProofs only[hge,aF,h8,g9,aA,seval,GS]
   | true=>
    simp -implicitDefEqProofs only[hge,dX,aF,h8,eP,aA,seval,GS]
    refine(hv _).to ?_
    cases v with
    | false=>simp -implicitDefEqProofs only[g9,aA,seval]
    | true=>
     simp -implicitDefEqProofs only[dX,eP,aA,seval,GS]
     refine(hp _).to ?_
     simp -implicitDefEqProofs only[aA,seval]
abbrev WX:=zi tI_3 (zi zI_3 (zi aU (zi tI_4 (zi zI_4 (zi cI (zi tI_27 (zi zI_27 (zi eH (zi gK (zi gN (zi iJ (zi tI_111 (zi zI_111 (zi kT (zi kU kQ)))))))))))))))
theorem SJ(l:List Cl)(st:aB):aD prog 78 [.slice (l.map a9)] st (fun r st'=>r=.bool (oJ l)∧st'=st):=by
 refine wF [1000000] 1 func78 ntmps78 rfl rfl ?_
 simp only[eQ,AV.fits,eR,aF]
 intro ⟨hl,_⟩
 simp -implicitDefEqProofs only[aA,seval]
 refine eL (σ:=Unit) [1000000] [0] l (fun i _=>i≤21∧(l.take i).all mC=true) (fun i _=>[(2,.bool false),(3,.int .i64 i)]) (fun _ _=>st) (by decide +kernel) ⟨(),⟨by omega,by simp⟩,aP.mk (by simp -implicitDefEqProofs only[aA,↓aS,seval])⟩ (fun i x _ hx hlt bR hdr hinv=>?_) (fun _ hge hinv=>?_)
 · obtain⟨i1,i2⟩:=hinv
   have hw:=bO (n:=(i:Int)+1)
   by_cases h7:i≤20
   · have h7':decide ((i:Int)≤20)=true:=gJ (by omega)
     have hat:=bQ (av:=a9) eH hx (jN x)
     simp -implicitDefEqProofs only[bR,bE,dX,aF,h7',hat,qL,jN,aA,seval,WX]
     refine(aBG x st).to ?_
     simp -implicitDefEqProofs only[aA,seval]
     refine aQ (fun h2=>?_) (fun h2=>?_)
     · simp only[lT] at h2
       simp -implicitDefEqProofs only[aA,seval]
       have:l.all mC=false:=wZ hx h2
       simp only[oJ,this,vH]
     · simp only[qD] at h2
       simp -implicitDefEqProofs only[aA,seval]
       refine⟨(),⟨by omega,?_⟩,aP.mk (by simp -implicitDefEqProofs only[hw,aA,seval])⟩
       rw[gC,hx,EA,i2]
       simp [h2]
   · have h7':decide ((i:Int)≤20)=false:=f0 (by omega)
     have h8:decide ((l.length:Int)≤20)=false:=f0 (by omega)
     have h9:decide (l.length≤20)=false:=f0 (by omega)
     simp -implicitDefEqProofs only[bR,bE,dX,aF,h7',h8,oJ,h9,g9,aA,seval,WX]
 · obtain⟨i1,i2⟩:=hinv
   rw[fG] at i2
   simp -implicitDefEqProofs only[hge,aF,aA,seval,WX]
   simp only[oJ,i2,BA,AV.bool.injEq,CE]
   omega
end Go.AW
namespace Go.AW

def d5:AV→List Nat
 | .mslice b _ _ _=>[b]
 | _=>[]
def kE(st:aB)(w:Nat)(q:AV)(l:List AV):Prop:=
 (q=.fslice []∧l= [])∨∃b cs,q=.mslice b 0 l.length w∧st b=Option.some (.cells cs)∧cs.take (l.length*w)=l.flatMap AV.cells∧l.length*w≤cs.length
theorem kE.shape{st:aB}{w:Nat}{q:AV}{l:List AV}(h:kE st w q l):q.isAgg=false∧q.width=1∧q.cJ=false∧q.cells= [q]∧q.storable=true:=by
 rcases h with ⟨rfl,_⟩ | ⟨b',cs,rfl,_⟩<;>exact⟨rfl,rfl,rfl,rfl,rfl⟩
theorem kE.a7{st st':aB}{w:Nat}{q:AV}{l:List AV}(h:kE st w q l)(hk:∀b∈d5 q,st' b=st b):kE st' w q l:=by
 rcases h with h | ⟨b,cs,rfl,hb,h2⟩
 · exact .inl h
 · exact .inr ⟨b,cs,rfl,by rw[hk b (by simp [d5])];exact hb,h2⟩
theorem kE.some{st:aB}{w:Nat}{q:AV}{l:List AV}(h:kE st w q l):∀b∈d5 q,∃cs,st b=Option.some (.cells cs):=by
 intro b hb
 rcases h with ⟨rfl,_⟩ | ⟨b',cs,rfl,hb',_⟩
 · simp [d5] at hb
 · simp only[d5,dB,dV,eA] at hb;subst hb;exact⟨cs,hb'⟩
theorem kE.len{P:Program}{t e:TypeId}{st:aB}{w:Nat}{q:AV}{l:List AV}(h:kE st w q l)(hu:P.underlying t=Option.some (.slice e)):mO P t q=Option.some (.int .i64 (l.length:Int)):=by
 rcases h with ⟨rfl,rfl⟩ | ⟨b,cs,rfl,_⟩<;>simp only[mO,hu,aX]
theorem kE.append{P:Program}{t:TypeId}{ag:Bool}{bytes w:Nat}{zs:List AV}{st:aB}{q:AV}{l:List AV}{x:AV}{K:AV→aB→Prop}(hI:eI P t=Option.some (ag,w))(hB:eB P t=Option.some bytes)(hZ:eZ P t=Option.some zs)(hz:zs.length=w)(hb8:bytes≤4096)
 (h:kE st w q l) (hx:x.width=w) (hxs:x.cells.all AV.storable=true) (hl:l.length≤1073741824)
 (hK:∀q' st',kE st' w q' (l++ [x])→(∀y,y∉d5 q→y∉d5 q'→st' y=st y)→(∀y∈d5 q',y∈d5 q∨st y=none)→K q' st'):kP P t st q (.fslice [x]) K:=by
 have g7:vQ w [x]:=by intro e he;simp only[dB,dV,eA] at he;subst he;exact⟨hx,hxs⟩
 have JE:(l.length+1)*bytes≤140737488355328:=by
  have:=Nat.mul_le_mul (show l.length+1≤1073741825 by omega) hb8
  omega
 have hxc:x.cells.length=w:=by rw[w9,hx]
 unfold kP
 simp only[hI,hB,hZ,BV]
 refine⟨hz,g7,?_⟩
 rcases h with ⟨rfl,rfl⟩ | ⟨b,cs,rfl,hb,hcs,hcl⟩
 · simp only[aX,aT,iA] at JE ⊢
   refine⟨by omega,by omega,by simp,fun h=>by simp at h,fun _ b hb=>?_⟩
   refine hK _ _ (.inr ⟨b,x.cells,rfl,by rw[aB.aJ];simp,?_,?_⟩) (fun y _ hy=>?_) (fun y hy=>?_)
   · simp only[eD,aT,aX,iA,Nat.one_mul,vL,List.flatMap_nil,iV]
     rw[←hxc,fG]
   · simp only[eD,aT,aX,iA,Nat.one_mul]
     omega
   · simp only[d5,dB,dV,eA] at hy
     rw[aB.aG _ _ hy]
   · simp only[d5,dB,dV,eA] at hy
     subst hy;exact .inr hb
 · simp only[aT,aX,iA,hb]
   have kV:cs.take (l.length*w)++ [x].flatMap AV.cells=(l++ [x]).flatMap AV.cells:=by rw[hcs];simp
   have hlen:((l++ [x]).flatMap AV.cells).length=(l++ [x]).length*w:=by
    rw[←kV,dW,eC,mL hcl]
    simp only[vL,List.flatMap_nil,iV,hxc,dW,aT,aX]
    rw[y6];omega
   refine⟨trivial,JE,by omega,hcl,?_,fun b' hb'=>?_⟩
   · rw[kV]
     refine hK _ _ (.inr ⟨b,_,by simp,aB.aJ _ _ _,by rw[n7 (by rw[hlen];exact dC _)],by rw[hlen];exact dC _⟩) (fun y hy _=>?_) (fun y hy=>.inl hy)
     simp only[d5,dB,dV,eA] at hy
     rw[aB.aG _ _ hy]
   · rw[kV]
     refine hK _ _ (.inr ⟨b',_,by simp,aB.aJ _ _ _,by rw[n7 (by rw[hlen];exact dC _)],by rw[hlen];exact dC _⟩) (fun y hy hy'=>?_) (fun y hy=>?_)
     · simp only[d5,dB,dV,eA] at hy hy'
       rw[aB.aG _ _ hy']
       simp [aB.erase,hy]
     · simp only[d5,dB,dV,eA] at hy
       subst hy;exact .inr hb'
def zS(k:Nat):AV→AV
 | .mslice b o _ w=>.mslice b o k w
 | a=>a
theorem kE.take{st:aB}{w:Nat}{q:AV}{l:List AV}(h:kE st w q l){k:Nat}(hk:k≤l.length)(hw:∀e∈l,e.width=w):kE st w (zS k q) (l.take k):=by
 rcases h with ⟨rfl,rfl⟩ | ⟨b,cs,rfl,hb,hcs,hcl⟩
 · exact .inl ⟨rfl,by simp⟩
 · have hlk:(l.take k).length=k:=by rw[eC];omega
   have h1:k*w≤l.length*w:=tU w hk
   refine .inr ⟨b,cs,by rw[hlk];try rfl,hb,?_,by rw[hlk];omega⟩
   rw[hlk]
   have h2:cs.take (k*w)=(cs.take (l.length*w)).take (k*w):=by rw[yZ,mL h1]
   rw[h2,hcs]
   have h3:l.flatMap AV.cells=(l.take k).flatMap AV.cells++(l.drop k).flatMap AV.cells:=by rw[←BF,tT]
   have h4:((l.take k).flatMap AV.cells).length=k*w:=by rw[qP (n:=w) (es:=l.take k) (fun e he=>hw e (mJ he)),hlk]
   rw[h3,List.take_left' h4]
theorem F9(k:Nat)(q:AV):d5 (zS k q)=d5 q:=by cases q<;>rfl
theorem kE.at{st:aB}{w:Nat}{q:AV}{l:List AV}(h:kE st w q l)(hw:∀e∈l,e.width=w){i:Nat}{e:AV}(he:l[i]?=.some e) :
 ∃b cs,q=.mslice b 0 l.length w∧st b=.some (.cells cs)∧i*w+w≤cs.length∧(cs.drop (i*w)).take w=e.cells:=by
 obtain⟨hi,hei⟩:=gW.1 he
 rcases h with ⟨rfl,rfl⟩ | ⟨b,cs,rfl,hb,hcs,hcl⟩
 · simp at he
 · have h1:(i+1)*w≤l.length*w:=tU w hi
   rw[y6,Nat.one_mul] at h1
   refine⟨b,cs,rfl,hb,by omega,?_⟩
   have h2:l=l.take i++e::l.drop (i+1):=by rw[←hei,←rH hi,tT]
   have hA:((l.take i).flatMap AV.cells).length=i*w:=by
    rw[qP (n:=w) (es:=l.take i) (fun e he=>hw e (mJ he)),eC,mL (by omega)]
   have hE:e.cells.length=w:=by rw[w9];exact hw e (dA he)
   have h3:(cs.drop (i*w)).take w=((cs.take (l.length*w)).drop (i*w)).take w:=by
    rw[List.drop_take,yZ,mL (by omega)]
   rw[h3,hcs,h2]
   simp only[BF,vL]
   rw[List.drop_left' hA,List.take_left' hE]
theorem cZ.fz{h:bS}{st:aB}{b:Nat}{es:List AV}(S:dD h st)(hb:st b=some (.cells (es.flatMap AV.cells)))(hj:∀e∈es,e.cJ=false)(hE:iU es):∀ {us:List AV} {vs:List Value},cZ h st us vs→cZ h (st.erase b) (lC b es us) vs
 | [],vs,x=>by simp only[cZ] at x;simp [lC,cZ,x]
 | a::us,vs,x=>by
  simp only[cZ] at x
  obtain⟨v,r,rfl,x1,x2⟩:=x
  simp only[lC,cZ]
  exact⟨v,r,rfl,x1.fz S hb hj hE,cZ.fz S hb hj hE x2⟩
theorem cL.unerase{h h':bS}{st st':aB}{b:Nat}(x:cL h (st.erase b) h' st'):cL h st h' st':=
 ⟨x.size,fun c hc e=>x.a7 c hc (aB.aZK st e),x.shape⟩
theorem aD.a0U{P:Program}{g:FuncId}{args:List AV}{st:aB}{Q:AV→aB→Prop}(b:Nat)(es:List AV)(hb:st b=some (.cells (es.flatMap AV.cells)))(hj:∀e∈es,e.cJ=false)(hE:iU es)(x:aD P g (lC b es args) (st.erase b) Q):aD P g args st Q:=
 ⟨x.1,fun w vs S V=>(x.2 w vs ((kJ st b).GN S) (V.fz S hb hj hE)).mono fun _ _ ⟨v,r,st',e,a,b',c,d,q⟩=>⟨v,r,st',e,a,b',c.unerase,d,q⟩⟩
def Lit(st:aB)(w:Nat)(l:List AV)(q:AV)(s:aB):Prop:=(q=.fslice l∧s=st)∨∃b,st b=none∧q=.mslice b 0 l.length w∧s=st.aC b (.cells (l.flatMap AV.cells))
theorem aUI{P:Program}{t:TypeId}{ag:Bool}{w bytes:Nat}{zs:List AV}{st:aB}{es xs:List AV}{x:AV}{K:AV→aB→Prop}(hI:eI P t=some (ag,w))(hB:eB P t=some bytes)(hZ:eZ P t=some zs)(hz:zs.length=w)(hx:x=.slice xs∨x=.fslice xs)(hes:∀e∈es,e.width=w)(g7:vQ w xs)(hl:(es.length+xs.length)*bytes≤140737488355328)(hl2:es.length+xs.length≤9223372036854775807)
 (hK:∀q s,Lit st w (es++xs) q s→K q s):kP P t st (.fslice es) x K:=by
 unfold kP
 have he:BV x=some xs:=by rcases hx with rfl | rfl<;>rfl
 simp only[hI,hB,hZ,he]
 refine⟨hz,g7,hl,hl2,hes,fun h=>?_,fun _ b hb=>?_⟩
 · subst h
   exact hK _ _ (.inl ⟨by rw[iV],rfl⟩)
 · exact hK _ _ (.inr ⟨b,hb,by rw[dW],rfl⟩)
theorem Lit.call{P:Program}{g:FuncId}{st s:aB}{w:Nat}{l:List AV}{q:AV}{post:List AV}{Q:AV→aB→Prop}(h:Lit st w l q s)(hj:∀e∈l,e.cJ=false)(hw:∀e∈l,e.width=w)(hp:∀b,lC b l post=post)(x:aD P g (.slice l::post) st Q):aD P g (q::post) s Q:=by
 rcases h with ⟨rfl,rfl⟩ | ⟨b,hb,rfl,rfl⟩
 · refine aD.args x fun hp vs S V=>?_
   simp only[cZ] at V ⊢
   obtain⟨v,r,rfl,V1,V2⟩:=V
   exact⟨v,r,rfl,V1.JA,V2⟩
 · refine aD.a0U b l (aB.aJ _ _ _) hj ⟨w,hw⟩ ?_
   rw[aB.xH st b _ hb]
   have:lC b l (.mslice b 0 l.length w::post)=.slice l::post:=by
    show(AV.mslice b 0 l.length w).fz b l::lC b l post=_
    rw[hp]
    simp [AV.fz]
   rw[this]
   exact x
end Go.AW
namespace Go.AW
open Go.Proofs.Tryz
def nv(i:Nat):AV:=.int .i64 (i:Int)
def fC:RG→AV
 | ⟨.mk k n s ts,a7⟩=>.agg [.int .i64 k,.int .i64 n,.str s,.slice (ts.map Tm.av),.int .i64 (a7:Int)]
theorem KD(k n:Int)(s:ByteArray)(ts:List Tm)(a7:Nat):fC ⟨.mk k n s ts,a7⟩=.agg [.int .i64 k,.int .i64 n,.str s,.slice (ts.map Tm.av),.int .i64 (a7:Int)]:=rfl
theorem a51(g:RG):fC g=.agg (g.t.av.cells++ [.int .i64 (g.a7:Int)]):=by obtain⟨⟨k,n,s,ts⟩,a7⟩:=g;rw[a8];try rfl
theorem GH(g:RG):(fC g).width=5:=by obtain⟨⟨k,n,s,ts⟩,a7⟩:=g;rfl
theorem a52(g:RG):(fC g).cells.all AV.storable=true:=by obtain⟨⟨k,n,s,ts⟩,a7⟩:=g;rfl
theorem a50(g:RG):(fC g).cJ=false:=by obtain⟨⟨k,n,s,ts⟩,a7⟩:=g;rfl
def gP:RC→AV
 | ⟨.mk k n s ts,rest,left,σ,N⟩=>.agg [.int .i64 k,.int .i64 n,.str s,.slice (ts.map Tm.av),.slice (rest.map fC),.slice (left.map nv),.slice (dE N σ)]
theorem OQ(g:RC):(gP g).width=7:=by obtain⟨⟨k,n,s,ts⟩,_,_,_,_⟩:=g;rfl
theorem a5O(g:RC):(gP g).cells.all AV.storable=true:=by obtain⟨⟨k,n,s,ts⟩,_,_,_,_⟩:=g;rfl
theorem a5N(g:RC):(gP g).cJ=false:=by obtain⟨⟨k,n,s,ts⟩,_,_,_,_⟩:=g;rfl
def uU(s:RS):AV:=.agg [.slice (s.goals.map fC),.slice (dE s.N s.σ),.slice (s.chs.map gP)]
abbrev W4:=zi tI_3 (zi zI_3 (zi aU (zi tI_4 (zi zI_4 (zi cI (zi tI_28 (zi zI_28 (zi aO (zi bF (zi bG (zi bZ (zi tI_52 (zi zI_52 (zi bU (zi bV (zi bX (zi bY bT)))))))))))))))))
theorem aA4:∀(t:Tm) (d:Nat) (st:aB),d≤1000→t.small=true→aD prog 201 [t.av,.int .i64 (d:Int)] st (fun r st'=>r=.bool (t.flat d)∧st'=st)
 | .mk k n s ts,d,st,hd,hsm=>by
  obtain⟨hlen,qV⟩:=Tm.rC hsm
  have IH:=fun(x:Tm) (hx:x∈ts) d st h=>aA4 x d st h (qV x hx)
  simp only[a8]
  refine wF [1000000] 2 func201 ntmps201 rfl rfl ?_
  intro _
  simp -implicitDefEqProofs only[aA,seval,W4]
  refine aQ (fun h=>?_) (fun h=>?_)
  · simp only[bK] at h
    obtain rfl:d=0:=by omega
    simp -implicitDefEqProofs only[aA,↓aS,seval]
    rw[Tm.I8]
  simp only[dL] at h
  obtain⟨e,rfl⟩:∃e,d=e+1:=⟨d - 1,by omega⟩
  rw[Tm.xL]
  have hw1:IntKind.i64.wrap ((e:Int)+1 - 1)=(e:Int):=by rw[wrap64 (by omega) (by omega)];omega
  simp -implicitDefEqProofs only[aA,seval]
  refine eL (σ:=Unit) [1000000] [1,2] ts (fun i _=>((ts.drop i).all fun t=>t.flat e)=(ts.all fun t=>t.flat e)) (fun i _=>[(5,.int .i64 i)]) (fun _ _=>st) (by decide +kernel) ⟨(),rfl,aP.mk (by simp -implicitDefEqProofs only[aA,↓aS,seval])⟩ (fun i x _ hx hlt bR hdr hinv=>?_) (fun _ hge hinv=>?_)
  case refine_2=>
   simp -implicitDefEqProofs only[hge,aF,aA,seval,W4]
   rw[←hinv,lH]
   try rfl
  have hw:=bO (n:=(i:Int)+1)
  rw[hdr,k0] at hinv
  simp -implicitDefEqProofs only[bR,aF,bQ (av:=Tm.av) aO hx (aM x),aY,aM,hw1,aA,seval,W4]
  refine(IH x (dA hx) e _ (by omega)).to ?_
  simp -implicitDefEqProofs only[aA,seval]
  refine aQ (fun h2=>?_) (fun h2=>?_)
  · simp -implicitDefEqProofs only[aA,seval]
    simp only[lT] at h2
    rw[←hinv,h2]
    try rfl
  · simp only[qD] at h2
    rw[h2,eP] at hinv
    simp -implicitDefEqProofs only[aA,seval]
    exact⟨(),hinv,aP.mk (by simp -implicitDefEqProofs only[hw,aA,seval])⟩
termination_by t=>SizeOf.sizeOf t
decreasing_by have:=List.sizeOf_lt_of_mem hx;simp only[Tm.mk.sizeOf_spec];omega
abbrev KO:=zi tI_3 (zi zI_3 (zi aU (zi tI_4 (zi zI_4 (zi cI (zi tI_28 (zi zI_28 (zi aO (zi bF (zi bG (zi bZ (zi tI_30 (zi zI_30 (zi iL (zi iM (zi iN (zi iO (zi iP (zi iQ (zi iK (zi tI_52 (zi zI_52 (zi bU (zi bV (zi bX (zi bY (zi bT (zi tI_120 (zi zI_120 (zi aMK (zi aML ZO)))))))))))))))))))))))))))))))
theorem aA8{N:Nat}{σ:Sub}(hg:cX σ)(ho:c9 (bP N) σ)(t:Tm)(ht:bP N t)(st:aB) :
 aD prog 159 [t.av,.slice (dE N σ)] st (fun r st'=>st'=st∧∃x:Tm,r=.tup [x.av,.bool (eX (t.aN (rs σ)))]∧(eX (t.aN (rs σ))=true→x=t.aN (rs σ))):=by
 obtain⟨rk,B,G⟩:=hg.rs
 have UM:=fun st=>Z3 G ho 120 t st (dC _) ht
 have hV:=G.VR ho.m7 ht.1
 refine aD.kS (aD.soft ?_)
 refine wF [1000000] 2 func159 ntmps159 rfl rfl ?_
 intro _
 simp -implicitDefEqProofs only[aY,aM,cP,aA,seval,KO]
 intro b4 h4
 refine(UM _).mono ?_
 rintro _ _ ⟨rfl,x,left,rfl,h1,h2⟩
 simp -implicitDefEqProofs only[aM,cH,cP,aA,↓aS,seval,KO]
 refine wP [(1,1),(2,1),(3,1),(4,2),(0,1),(5,0),(6,1),(7,0),(8,1)] [1,2,3,4,0,6,8] mixed ?_
 simp -implicitDefEqProofs only[aA,seval]
 refine cU (fun h=>?_) (fun h=>?_)
 · have h3:0≤left:=by simpa using h
   have h4:(t.aN (rs σ)).nodes≤120:=D9 fun h5=>by rw[aE h5] at h2;omega
   rw[aH h4] at h2
   obtain⟨rfl,_⟩:=h2
   have h5:eX (t.aN (rs σ))=(t.aN (rs σ)).flat 30:=by unfold eX;simp [h4]
   simp -implicitDefEqProofs only[h,aY,aM,aA,seval,KO]
   refine(aA4 _ 30 _ (by omega) hV.small).to ?_
   simp -implicitDefEqProofs only[aK,cH,cP,b9,aA,seval,KO]
   refine⟨st,(aL.refl _).aC ‹_›,rfl,_,by simp only[jQ,sB,Tm.soft,bB,aW];rw[h5],fun _=>rfl⟩
 · have hx0:=trivial
   have h3:left<0:=by simpa using h
   have h4:¬(t.aN (rs σ)).nodes≤120:=fun h5=>by rw[aH h5] at h2;omega
   have h5:eX (t.aN (rs σ))=false:=by unfold eX;simp [h4]
   simp -implicitDefEqProofs only[h,aK,aY,aM,cH,cP,b9,eW (b9 x),eU (aY x),aA,seval,KO]
   refine⟨st,(aL.refl _).aC ‹_›,rfl,x,by simp only[jQ,sB,Tm.soft,bB,aW];rw[h5],fun h6=>?_⟩
   rw[h5] at h6;cases h6
theorem a0S(c:Cl):I9 c=(cF (c.1::c.2) []).foldl (fun n v=>if n≤v then v+1 else n) 0:=rfl
abbrev O6:=zi tI_3 (zi zI_3 (zi aU (zi tI_28 (zi zI_28 (zi aO (zi bF (zi bG (zi bZ (zi tI_40 (zi zI_40 (zi dT (zi fJ (zi fK (zi fU (zi tI_52 (zi zI_52 (zi bU (zi bV (zi bX (zi bY (zi bT (zi tI_111 (zi zI_111 (zi kT (zi kU kQ)))))))))))))))))))))))))
theorem aXZ(c:Cl)(hc:iC c)(h6:c.2.length≤6)(st:aB):aD prog 210 [a9 c] st (fun r st'=>r=.int .i64 (pV c:Int)∧st'=st):=by
 have hvr:=fun v=>hc.vars (v:=v)
 have hok:=hc.F5
 have hfr:(pV c:Int)=I9 c:=by
  have:=(aNF (cF (c.1::c.2) []) 0).1
  unfold pV I9
  omega
 rw[hfr,a0S]
 have hnd:bH Tm.nodes (c.1::c.2)≤1099511627776:=by
  have:∀l:List Tm,(∀t∈l,bP 26 t)→bH Tm.nodes l≤l.length*120:=by
   intro l
   induction l with
   | nil=>intro _;simp [bH]
   | cons x l ih=>intro h;simp only[bH,aT];have:=ih fun y hy=>h y (by simp [hy]);have:=(h x (by simp)).2;omega
  have:=this _ hok
  simp only[aT] at this
  omega
 have hvl:=A4 (c.1::c.2) []
 obtain⟨⟨k,n,s,ts⟩,bd⟩:=c
 simp only at h6 hnd hvl hvr hok
 rw[gI]
 refine aD.done ?_
 refine wF [1000000] 1 func210 ntmps210 rfl rfl ?_
 intro _
 simp -implicitDefEqProofs only[aA,seval,O6]
 refine aUI aO bF bG rfl (.inl rfl) (by intro e he;simp only[dB,dV,eA] at he;subst he;rfl) (fun e he=>by simp only[cY] at he;obtain⟨t,_,rfl⟩:=he;exact⟨aM _,cH _⟩) (by simp only[aT,aX,aF];omega) (by simp only[aT,aX,aF];omega) (fun q s2 hq=>?_)
 rw[←a8] at hq
 rw[show[(Tm.mk k n s ts).av]++bd.map Tm.av=((Tm.mk k n s ts)::bd).map Tm.av from rfl] at hq
 simp -implicitDefEqProofs only[aA,seval]
 refine Lit.call hq (jJ _) (d9 _) (fun _=>rfl) ?_
 refine(aBA _ _ (fun t ht=>Tm.vV t (hok t ht).1.2.1) hnd).to ?_
 generalize cF ((Tm.mk k n s ts)::bd) []=vs at *
 simp only[aX] at hvl
 simp -implicitDefEqProofs only[aA,seval]
 refine eL (σ:=Int) [1000000] [2,3] vs (fun i n=>(vs.drop i).foldl (fun n v=>if n≤v then v+1 else n) n=vs.foldl (fun n v=>if n≤v then v+1 else n) 0) (fun i n=>[(4,.int .i64 n),(5,.int .i64 i)]) (fun _ _=>st) (by decide +kernel) ⟨0,rfl,aP.mk (by simp -implicitDefEqProofs only[aA,↓aS,seval])⟩ (fun i x n hx hlt bR hdr hinv=>?_) (fun n hge hinv=>?_)
 case refine_2=>
  rw[lH] at hinv
  simp -implicitDefEqProofs only[aF,hge,aA,seval,O6]
  refine⟨?_,aL.refl _⟩
  rw[←hinv]
  try rfl
 rw[hdr,BG] at hinv
 have hw:=bO (n:=(i:Int)+1)
 obtain⟨t,ht,hv⟩:=(hvr x).1 (dA hx)
 have bAU:=(hok t ht).1.2.2 x hv
 have hw2:=bO (n:=x+1)
 have hat:dN prog 40 (.slice (vs.map iv)) (.int .i64 (i:Int))=some (.pptr (.int .i64 x)):=bQ (av:=iv) dT hx rfl
 simp -implicitDefEqProofs only[aF,bR,hat,aA,seval,O6]
 refine aQ (fun h=>?_) (fun h=>?_)
 · rw[aH (by simpa using h)] at hinv
   simp -implicitDefEqProofs only[hat,hw2,hw,aA,seval,O6]
   exact⟨x+1,hinv,aP.mk (by simp -implicitDefEqProofs only[aA,seval])⟩
 · rw[aE (by simpa using h)] at hinv
   simp -implicitDefEqProofs only[hw,aA,seval]
   exact⟨n,hinv,aP.mk (by simp -implicitDefEqProofs only[aA,seval])⟩
theorem aQO{M:Int}(m:Nat)(hm:M+m≤1073741824):∀t:Tm,cO M t→t.sh (m:Int)=dK m t:=by
 intro t
 induction t using Tm.ind with
 | h k n s ts ih=>
  intro h
  rw[Tm.WL]
  by_cases hk:k=1
  · subst hk
    obtain⟨h0,h1,rfl,rfl⟩:=h.var
    unfold dK
    rw[aH rfl,AM _ (t:=.mk 1 n ⟨#[]⟩ []) rfl,wrap64 (by omega) (by omega)]
    try rfl
  · obtain⟨_,h2⟩:=h.own hk
    unfold dK at ih ⊢
    rw[aE hk,yD _ hk]
    congr 1
    exact sJ fun x hx=>ih x hx (h2 x hx)
abbrev O7:=zi tI_3 (zi zI_3 (zi aU (zi tI_28 (zi zI_28 (zi aO (zi bF (zi bG (zi bZ (zi tI_52 (zi zI_52 (zi bU (zi bV (zi bX (zi bY (zi bT (zi tI_156 (zi zI_156 (zi xG (zi CF (zi CH (zi LB (zi tI_193 (zi zI_193 (zi aMO (zi aMP ZQ)))))))))))))))))))))))))
theorem aA5(bd:List Tm)(N a7:Nat)(rest:List RG)(hb:∀t∈bd,bP 26 t)(h6:bd.length≤6)(hN:N≤1048576)(hr:rest.length≤1048576)(st:aB) :
 aD prog 158 [.slice (bd.map Tm.av),.int .i64 (N:Int),.int .i64 (a7:Int),.slice (rest.map fC)] st (fun r st'=>r=.slice ((bd.map (fun t=>(⟨dK N t,a7⟩:RG))++rest).map fC)∧st'=st):=by
 refine aD.qM (aD.fin ?_)
 refine wF [1000000] 4 func158 ntmps158 rfl rfl ?_
 intro _
 simp -implicitDefEqProofs only[aA,seval,O7]
 refine eL (σ:=Nat) [1000000] [0,1,2,3,8] bd (fun i b=>((bd.take i).map (fun t=>(⟨dK N t,a7⟩:RG))).map fC≠[]→st b=none) (fun i b=>[(9,aZ 5 b (((bd.take i).map (fun t=>(⟨dK N t,a7⟩:RG))).map fC)),(10,.int .i64 i)]) (fun i b=>aV st b (((bd.take i).map (fun t=>(⟨dK N t,a7⟩:RG))).map fC)) (by decide +kernel) ⟨0,fun h=>absurd rfl h,aP.mk (by simp -implicitDefEqProofs only[l7,aW,jV,aA,↓aS,seval])⟩ (fun i x b hx hlt bR hdr hinv=>?_) (fun b hge hinv=>?_)
 case refine_1=>
  have hw:=bO (n:=(i:Int)+1)
  have c8:(((bd.take i).map (fun t=>(⟨dK N t,a7⟩:RG))).map fC).length=i:=by simp only[aF,eC];omega
  have htk:(((bd.take i).map (fun t=>(⟨dK N t,a7⟩:RG))).map fC)++ [fC ⟨dK N x,a7⟩]=(((bd.take (i+1)).map (fun t=>(⟨dK N t,a7⟩:RG))).map fC):=by rw[gC,hx];simp
  have hxo:=hb x (dA hx)
  have hsh:=aQO N (by omega) x hxo.1
  have hcs:=SC (N:Int) x
  rw[hsh] at hcs
  have hgo:fC ⟨dK N x,a7⟩=.agg ((dK N x).av.cells++ [.int .i64 (a7:Int)]):=a51 _
  simp -implicitDefEqProofs only[bR,aF,bQ (av:=Tm.av) aO hx (aM x),aY,aM,aA,seval,O7]
  refine(hcs _ hxo.1.small).to ?_
  generalize dK N x=y at *
  obtain⟨yk,yn,ys,yt⟩:=y
  simp only[a8,KD] at htk hgo ⊢
  simp -implicitDefEqProofs only[aA,seval,O7]
  refine eE xG CF CH rfl rfl (fL rfl rfl) (by intro e he;simp only[cY] at he;obtain⟨t,_,rfl⟩:=he;exact GH t) hinv (by simp only[c8,aT,aX];omega) (by simp only[c8,aT,aX];omega) (fun b' hb'=>?_)
  rw[htk] at hb' ⊢
  simp -implicitDefEqProofs only[hw,aA,seval]
  exact⟨b',hb',aP.mk (by simp -implicitDefEqProofs only[aA,seval])⟩
 rw[fG] at hinv ⊢
 simp -implicitDefEqProofs only[aF,hge,aA,seval,O7]
 refine eE (xs:=rest.map fC) xG CF CH rfl rfl (by intro e he;simp only[cY] at he;obtain⟨t,_,rfl⟩:=he;exact⟨GH t,a52 t⟩) (by intro e he;simp only[cY] at he;obtain⟨t,_,rfl⟩:=he;exact GH t) hinv (by simp only[aF];omega) (by simp only[aF];omega) (fun b' hb'=>?_)
 rw[←oY] at hb' ⊢
 simp -implicitDefEqProofs only[aA,seval]
 exact⟨b',_,st,rfl,hb',by intro e he;simp only[cY] at he;obtain⟨t,_,rfl⟩:=he;exact a50 t,⟨5,by intro e he;simp only[cY] at he;obtain⟨t,_,rfl⟩:=he;exact GH t⟩,by rw[jE],aL.refl _⟩
def rR(p:List Cl)(t:Tm)(i:Nat):Bool:=match p[i]? with
 | some c=>JH c t
 | none=>false
theorem NC(p:List Cl)(t:Tm):gA p t=(List.range p.length).filter (rR p t):=rfl
theorem aNC(p:List Cl)(t:Tm)(i:Nat):(List.range (i+1)).filter (rR p t)=(List.range i).filter (rR p t)++(if rR p t i=true then[i] else[]):=by
 rw[List.range_succ,List.filter_append]
 congr 1
 by_cases h:rR p t i=true<;>simp [h]
theorem ND(p:List Cl)(t:Tm)(i:Nat):((List.range i).filter (rR p t)).length≤i:=by
 have:=List.length_filter_le (rR p t) (List.range i)
 rw[LN] at this
 exact this
theorem aPL(l:List Nat):∀e∈l.map nv,e.width=1:=by intro e h;simp only[cY] at h;obtain⟨t,_,rfl⟩:=h;rfl
abbrev GW:=zi tI_3 (zi zI_3 (zi aU (zi tI_9 (zi zI_9 (zi cT (zi tI_27 (zi zI_27 (zi eH (zi gK (zi gN (zi iJ (zi tI_28 (zi zI_28 (zi aO (zi bF (zi bG (zi bZ (zi tI_40 (zi zI_40 (zi dT (zi fJ (zi fK (zi fU (zi tI_52 (zi zI_52 (zi bU (zi bV (zi bX (zi bY (zi bT (zi tI_111 (zi zI_111 (zi kT (zi kU kQ))))))))))))))))))))))))))))))))))
theorem aXK(p:List Cl)(t:Tm)(hp:p.length≤1048576)(st:aB):aD prog 167 [.slice (p.map a9),t.av] st (fun r st'=>r=.slice ((gA p t).map nv)∧st'=st):=by
 rw[NC]
 refine aD.done ?_
 obtain⟨tk,tn,ts',tts⟩:=t
 simp only[a8]
 refine wF [1000000] 2 func167 ntmps167 rfl rfl ?_
 intro _
 simp -implicitDefEqProofs only[aA,seval,GW]
 refine vG (σ:=Unit) [1000000] [0,3,4] p 1 5 (fun i _=>((List.range i).filter (rR p (.mk tk tn ts' tts))).map nv) (fun _ _=>True) (fun i _=>[(6,.int .i64 i)]) (fun _ _=>st) (fun i _ _ e he=>by simp only[cY] at he;obtain⟨t,_,rfl⟩:=he;exact⟨rfl,rfl⟩) (by decide +kernel) ⟨(),0,trivial,fun h=>absurd rfl h,aP.mk (by simp -implicitDefEqProofs only[jV,List.range_zero,List.filter_nil,aW,aA,↓aS,seval])⟩ (fun i x s b hx hlt bR hdr hinv hb=>?_) (fun s b hge hinv=>?_)
 case refine_2=>
  simp -implicitDefEqProofs only[hge,eS,jF,qO,FC,mV,aF,aA,seval,GW]
  exact⟨rfl,aL.refl _⟩
 have hw:=bO (n:=(i:Int)+1)
 have hst:=aNC p (.mk tk tn ts' tts) i
 have hln:=ND p (.mk tk tn ts' tts) i
 have hat:=bQ (av:=a9) (P:=prog) eH hx (jN x)
 obtain⟨⟨k,n,s',ts⟩,bd⟩:=x
 rw[gI] at hat
 have hP:rR p (.mk tk tn ts' tts) i=(decide (s'=ts')&&decide ((ts.length:Int)=(tts.length:Int))):=by unfold rR;rw[hx];try rfl
 rw[hP] at hst
 simp -implicitDefEqProofs only[bR,aF,aA,seval,GW]
 refine wP [(0,1),(1,1),(2,1),(3,1),(4,1),(6,1),(5,2),(7,2),(8,1),(9,1),(10,1),(11,1),(12,1),(13,1),(14,1),(17,1),(15,2),(16,1),(18,2),(19,1),(20,1),(21,1)] [0,1,2,3,4,6,5,7,8,9,10,11,12,13,14,17,15,16,18,19,20,21] mixed ?_
 simp -implicitDefEqProofs only[hat,aA,seval,GW]
 refine cU (fun h=>?_) (fun h=>?_)
 case refine_2=>
  have h':(decide (s'=ts')&&decide ((ts.length:Int)=(tts.length:Int)))=false:=by simp at h;simp [h]
  rw[h',aE (by simp),iV] at hst
  rw[←hst] at hb ⊢
  simp -implicitDefEqProofs only[h,hw,aA,seval]
  exact⟨(),b,hb,aP.mk (by simp -implicitDefEqProofs only[aA,seval])⟩
 have h1:decide (s'=ts')=true:=by simpa using h
 rw[h1,eP] at hst
 simp -implicitDefEqProofs only[h,aF,hat,aA,seval,GW]
 refine aQ (fun h2=>?_) (fun h2=>?_)
 · rw[aH h2] at hst
   simp -implicitDefEqProofs only[aA,seval,GW]
   refine eE dT fJ fK rfl rfl (fL rfl rfl) (aPL _) hb (by simp only[aF,aT,aX];omega) (by simp only[aF,aT,aX];omega) (fun b' hb'=>?_)
   rw[show ∀l:List Nat,l.map nv++ [AV.int .i64 (i:Int)]=(l++ [i]).map nv from fun l=>by simp [nv],←hst] at hb' ⊢
   simp -implicitDefEqProofs only[hw,aA,seval]
   exact⟨(),b',hb',aP.mk (by simp -implicitDefEqProofs only[aA,seval])⟩
 · rw[aE (by simp [h2]),iV] at hst
   rw[←hst] at hb ⊢
   simp -implicitDefEqProofs only[hw,aA,seval]
   exact⟨(),b,hb,aP.mk (by simp -implicitDefEqProofs only[aA,seval])⟩
theorem VB{n:Int}:∀ {l:List Int},l.Nodup→∀ {i:Nat},l[i]?=some n→∀j:Int,fP n l j=j+i
 | [],_,i,h,j=>by simp at h
 | x::l,hd,0,h,j=>by
  simp only[QN,Option.some.injEq] at h
  subst h
  simp [fP]
 | x::l,hd,i+1,h,j=>by
  rw[HA] at hd
  rw[QM] at h
  have hm:=dA h
  simp only[fP]
  rw[aE (fun e:n=x=>hd.1 (e▸hm)),VB hd.2 h (j+1)]
  omega
abbrev oN:=zi tI_3 (zi zI_3 (zi aU (zi tI_9 (zi zI_9 (zi cT (zi tI_28 (zi zI_28 (zi aO (zi bF (zi bG (zi bZ (zi tI_40 (zi zI_40 (zi dT (zi fJ (zi fK (zi fU (zi tI_52 (zi zI_52 (zi bU (zi bV (zi bX (zi bY bT)))))))))))))))))))))))
theorem aAP(vars:List Int)(hnd:vars.Nodup)(hvl:vars.length≤1048576):∀(t:Tm) (st:aB),t.small=true→t.cv=true→(∀v∈t.vl,v∈vars)→aD prog 202 [t.av,.slice (vars.map iv)] st (fun r st'=>r=(t.aN fun v=>vr (fP v vars 0)).av∧st'=st)
 | .mk k n s ts,st,hsm,hcv,hin=>by
  obtain⟨hlen,qV⟩:=Tm.rC hsm
  obtain⟨hc1,hcs⟩:=Tm.pS.1 hcv
  have IH:=fun(x:Tm) (hx:x∈ts) st=>aAP vars hnd hvl x st (qV x hx) (hcs x hx) (fun v hv=>by
   by_cases hk:k=1
   · rw[(hc1 hk).2] at hx;cases hx
   · exact hin v ((Tm.mI hk).2 ⟨x,hx,hv⟩))
  generalize hg:(Tm.aN fun v=>vr (fP v vars 0))=g at IH
  refine aD.qM (aD.fin ?_)
  simp only[a8]
  refine wF [1000000,5] 2 func202 ntmps202 rfl rfl ?_
  intro _
  simp -implicitDefEqProofs only[aK,aA,↓aS,seval,oN]
  intro b4 h4 c hc
  have hne:c≠b4:=by rintro rfl;rw[aB.aJ] at hc;cases hc
  have hnc:st c=none:=by rw[aB.aG st _ hne] at hc;exact hc
  have CX:∀i:Nat,vars[i]?=some n→fP n vars 0=(i:Int):=fun i hi=>by
   have:=VB hnd hi 0
   omega
  generalize hW:st.aC b4 (.cells [AV.int .i64 0,AV.int .i64 0,AV.str ⟨#[]⟩,AV.fslice []])=W
  have hWc:W c=none:=by rw[←hW];exact hc
  have hW4:W b4=some (.cells [AV.int .i64 0,AV.int .i64 0,AV.str ⟨#[]⟩,AV.fslice []]):=by rw[←hW];exact aB.aJ _ _ _
  have hS:W b4≠none:=by rw[hW4];simp
  have NO:b4≠c:=dG hne
  refine iT (σ:=Nat×Int) [1000000,5] [1,2,4,5] (fun p=>p.1≤vars.length∧(k≠1→p.2=n)∧(k=1→(n∈vars.take p.1→p.2=fP n vars 0))) (fun p=>[(6,.int .i64 p.1)]) (fun p=>W.aC c (.cells [.int .i64 k,.int .i64 p.2,.str s,.fslice []])) (fun p=>vars.length - p.1) (by decide +kernel) ⟨(0,n),⟨jU _,fun _=>rfl,fun _ h=>by simp at h⟩,aP.mk (by simp -implicitDefEqProofs only[aA,↓aS,seval])⟩ ?_
  rintro⟨i,n'⟩ ⟨h1,h2,h3⟩
  simp only at h1 h2 h3
  have rest:(k=1→n'=fP n vars 0)→True:=fun _=>trivial
  simp -implicitDefEqProofs only[aF,aA,seval,oN]
  have fin:(k=1→n'=fP n vars 0)→g (.mk k n s ts)=.mk k n' s (ts.map g):=fun h4=>by
   rw[←hg]
   by_cases hk:k=1
   · obtain⟨rfl,rfl⟩:=hc1 hk
     rw[Tm.oE _ hk,h4 hk,hk];try rfl
   · rw[Tm.mZ _ hk,h2 hk]
  refine cU (fun h=>?_) (fun h=>?_)
  case refine_2=>
   have h4:(k=1→n'=fP n vars 0):=fun hk=>h3 hk (by
    have:i=vars.length:=by simp at h;omega
    rw[this,fG]
    exact hin n (by rw[Tm.oT hk];simp))
   simp -implicitDefEqProofs only[h,aA,seval]
   refine eL (σ:=Nat) [1000000,5] [1,2,4,5] ts (fun i b=>(((ts.take i).map g).map Tm.av≠[]→(aB.aC W c (.cells ([AV.int .i64 k,AV.int .i64 (n'),AV.str s]++ [aZ 4 b (((ts.take i).map g).map Tm.av)]))) b=none)) (fun i b=>[(7,.int .i64 i)]) (fun i b=>fX W c b [AV.int .i64 k,AV.int .i64 (n'),AV.str s] (((ts.take i).map g).map Tm.av)) (by decide +kernel)
    ⟨0,fun h=>absurd rfl h,aP.mk (by simp -implicitDefEqProofs only[aA,↓aS,seval])⟩ (fun i x b hx hlt bR hdr hinv=>?_) (fun b hge hinv=>?_)
   case refine_1=>
    have hw:=bO (n:=(i:Int)+1)
    have c8:(((ts.take i).map g).map Tm.av).length=i:=by simp only[aF,eC];omega
    have htk:(ts.take (i+1)).map g=(ts.take i).map g++ [g x]:=by rw[gC,hx];simp
    have hbo:=fA hinv
    simp -implicitDefEqProofs only[aF,bR,aF,aA,seval,oN]
    refine wP [(0,1),(2,1),(4,1),(7,1),(1,2),(3,2),(5,1),(6,2),(8,2),(9,1),(10,0),(11,1),(12,0)] [0,2,4,7,1,3,5,6,8,9,11] mixed ?_
    simp -implicitDefEqProofs only[bQ (av:=Tm.av) aO hx (aM x),aY,aM,hbo,mP,aA,seval,oN]
    refine j6 (IH x (dA hx) _) ?_
    simp -implicitDefEqProofs only[aY,aM,cP,aA,seval,oN]
    refine eE aO bF bG rfl rfl (fL (aM _) (cH _)) (d9 _) hinv (by simp only[c8,aT,aX];omega) (by simp only[c8,aT,aX];omega) (fun b' hb'=>?_)
    rw[show(((ts.take i).map g).map Tm.av)++ [(g x).av]=((ts.take (i+1)).map g).map Tm.av by rw[htk];simp] at hb' ⊢
    obtain⟨g1,g2,g3⟩:=p7 hb'
    simp only[fE,eD] at g1 g3
    simp -implicitDefEqProofs only[g3,mQ,fH,aK,g1,hw,aK,aA,seval,oN]
    exact⟨b',g2,aP.mk (by simp -implicitDefEqProofs only[aA,seval])⟩
   have hbo:=fA hinv
   rw[fG] at hinv hbo ⊢
   simp -implicitDefEqProofs only[aF,hge,aF,aA,seval,oN]
   simp -implicitDefEqProofs only[hbo,aK,aA,seval,oN]
   have g1:=iE hinv hS NO
   rw[hW4] at g1
   simp -implicitDefEqProofs only[g1,fH,aA,seval]
   obtain⟨g2,g3⟩:=lK (o:=.cells [AV.int .i64 k,AV.int .i64 (n'),AV.str s,aZ 4 b ((ts.map g).map Tm.av)]) hinv hS NO
   refine⟨b,_,_,g2,g3,jJ _,⟨4,d9 _⟩,?_,fun x=>?_⟩
   · simp only[gG,bB,aW,eS,kA,jE,←a8]
     rw[fin h4]
   · subst hW
     by_cases e3:x=b4<;>by_cases e4:x=c<;>simp_all [aB.aC]
  have hlt:i<vars.length:=by simpa using h
  simp -implicitDefEqProofs only[h,aA,seval,oN]
  refine aQ (fun h5=>?_) (fun h5=>?_)
  case refine_2=>
   have h5':k≠1:=by simpa using h5
   have h4:(k=1→n'=fP n vars 0):=fun hk=>absurd hk h5'
   simp -implicitDefEqProofs only[aA,seval]
   refine eL (σ:=Nat) [1000000,5] [1,2,4,5] ts (fun i b=>(((ts.take i).map g).map Tm.av≠[]→(aB.aC W c (.cells ([AV.int .i64 k,AV.int .i64 (n'),AV.str s]++ [aZ 4 b (((ts.take i).map g).map Tm.av)]))) b=none)) (fun i b=>[(7,.int .i64 i)]) (fun i b=>fX W c b [AV.int .i64 k,AV.int .i64 (n'),AV.str s] (((ts.take i).map g).map Tm.av)) (by decide +kernel)
    ⟨0,fun h=>absurd rfl h,aP.mk (by simp -implicitDefEqProofs only[aA,↓aS,seval])⟩ (fun i x b hx hlt bR hdr hinv=>?_) (fun b hge hinv=>?_)
   case refine_1=>
    have hw:=bO (n:=(i:Int)+1)
    have c8:(((ts.take i).map g).map Tm.av).length=i:=by simp only[aF,eC];omega
    have htk:(ts.take (i+1)).map g=(ts.take i).map g++ [g x]:=by rw[gC,hx];simp
    have hbo:=fA hinv
    simp -implicitDefEqProofs only[aF,bR,aF,aA,seval,oN]
    refine wP [(0,1),(2,1),(4,1),(7,1),(1,2),(3,2),(5,1),(6,2),(8,2),(9,1),(10,0),(11,1),(12,0)] [0,2,4,7,1,3,5,6,8,9,11] mixed ?_
    simp -implicitDefEqProofs only[bQ (av:=Tm.av) aO hx (aM x),aY,aM,hbo,mP,aA,seval,oN]
    refine j6 (IH x (dA hx) _) ?_
    simp -implicitDefEqProofs only[aY,aM,cP,aA,seval,oN]
    refine eE aO bF bG rfl rfl (fL (aM _) (cH _)) (d9 _) hinv (by simp only[c8,aT,aX];omega) (by simp only[c8,aT,aX];omega) (fun b' hb'=>?_)
    rw[show(((ts.take i).map g).map Tm.av)++ [(g x).av]=((ts.take (i+1)).map g).map Tm.av by rw[htk];simp] at hb' ⊢
    obtain⟨g1,g2,g3⟩:=p7 hb'
    simp only[fE,eD] at g1 g3
    simp -implicitDefEqProofs only[g3,mQ,fH,aK,g1,hw,aK,aA,seval,oN]
    exact⟨b',g2,aP.mk (by simp -implicitDefEqProofs only[aA,seval])⟩
   have hbo:=fA hinv
   rw[fG] at hinv hbo ⊢
   simp -implicitDefEqProofs only[aF,hge,aF,aA,seval,oN]
   simp -implicitDefEqProofs only[hbo,aK,aA,seval,oN]
   have g1:=iE hinv hS NO
   rw[hW4] at g1
   simp -implicitDefEqProofs only[g1,fH,aA,seval]
   obtain⟨g2,g3⟩:=lK (o:=.cells [AV.int .i64 k,AV.int .i64 (n'),AV.str s,aZ 4 b ((ts.map g).map Tm.av)]) hinv hS NO
   refine⟨b,_,_,g2,g3,jJ _,⟨4,d9 _⟩,?_,fun x=>?_⟩
   · simp only[gG,bB,aW,eS,kA,jE,←a8]
     rw[fin h4]
   · subst hW
     by_cases e3:x=b4<;>by_cases e4:x=c<;>simp_all [aB.aC]
  have hk:k=1:=by simpa using h5
  obtain⟨x,hx⟩:∃x,vars[i]?=some x:=⟨_,fF hlt⟩
  have hat:dN prog 40 (.slice (vars.map iv)) (.int .i64 (i:Int))=some (.pptr (.int .i64 x)):=bQ (av:=iv) dT hx rfl
  have hw:=bO (n:=(i:Int)+1)
  have htk:vars.take (i+1)=vars.take i++ [x]:=by rw[gC,hx];try rfl
  simp -implicitDefEqProofs only[aA,seval]
  refine wP [(0,1),(1,1),(2,1),(4,1),(3,2),(5,2),(6,1)] [0,1,2,4,3,5,6] mixed ?_
  simp -implicitDefEqProofs only[hat,aA,seval,oN]
  refine aQ (fun h6=>?_) (fun h6=>?_)
  · have h6':x=n:=by simpa using h6
    subst h6'
    simp -implicitDefEqProofs only[aK,hw,aA,seval,oN]
    refine⟨(i+1,(i:Int)),by simp only;omega,⟨hlt,fun h=>absurd hk h,fun _ _=>(CX i hx).symm⟩,aP.mk (by simp -implicitDefEqProofs only[aA,seval])⟩
  · have h6':x≠n:=by simpa using h6
    simp -implicitDefEqProofs only[hw,aA,seval]
    refine⟨(i+1,n'),by simp only;omega,⟨hlt,h2,fun hk hm=>h3 hk ?_⟩,aP.mk (by simp -implicitDefEqProofs only[aA,seval])⟩
    rw[htk,eK] at hm
    rcases hm with hm | hm
    · exact hm
    · simp only[dB,dV,eA] at hm
      exact absurd hm.symm h6'
termination_by t=>SizeOf.sizeOf t
decreasing_by have:=List.sizeOf_lt_of_mem hx;simp only[Tm.mk.sizeOf_spec];omega
theorem PY:∀(ts:List Tm) (l:List Int),(∀t∈ts,t.wf=true)→l.Nodup→(cF ts l).Nodup
 | [],l,_,h=>h
 | t::ts,l,hw,h=>PY ts _ (fun x hx=>hw x (by simp [hx])) ((XY t (hw t (by simp)) l).2.1 h)
theorem FY:∀l:List Tm,(∀t∈l,t.nodes≤120)→bH Tm.nodes l≤l.length*120
 | [],_=>by simp [bH]
 | x::l,h=>by
  simp only[bH,aT]
  have:=FY l fun y hy=>h y (by simp [hy])
  have:=h x (by simp)
  omega
abbrev GX:=zi tI_3 (zi zI_3 (zi aU (zi tI_28 (zi zI_28 (zi aO (zi bF (zi bG (zi bZ (zi tI_40 (zi zI_40 (zi dT (zi fJ (zi fK (zi fU (zi tI_52 (zi zI_52 (zi bU (zi bV (zi bX (zi bY bT))))))))))))))))))))
theorem aW2{N:Int}(l:List Tm)(hok:∀t∈l,bP N t)(hl:l.length≤1000)(st:aB):aD prog 161 [.slice (l.map Tm.av)] st (fun r st'=>r=.slice ((rB l).map Tm.av)∧st'=st):=by
 have hnd:=FY l fun t ht=>(hok t ht).2
 have UH:=PY l [] (fun t ht=>Tm.vV t (hok t ht).1.2.1) mK
 have iB:=fun v=>A5 (v:=v) l [] fun t ht=>(hok t ht).1.2.1
 have hvl:=A4 l []
 simp only[aX] at hvl
 refine aD.done ?_
 refine wF [1000000] 1 func161 ntmps161 rfl rfl ?_
 intro _
 simp -implicitDefEqProofs only[aA,seval,GX]
 refine vG (σ:=Unit) [1000000] [0,2] l 1 3 (fun i _=>(cF (l.take i) []).map iv) (fun _ _=>True) (fun i _=>[(4,.int .i64 i)]) (fun _ _=>st) (fun i _ _ e he=>by simp only[cY] at he;obtain⟨t,_,rfl⟩:=he;exact⟨rfl,rfl⟩) (by decide +kernel) ⟨(),0,trivial,fun h=>absurd rfl h,aP.mk (by simp -implicitDefEqProofs only[jV,l7,cF,aW,aA,↓aS,seval])⟩ (fun i x s b hx hlt bR hdr hinv hb=>?_) (fun s b hge hinv=>?_)
 case refine_1=>
  have hw:=bO (n:=(i:Int)+1)
  have hat:=bQ (av:=Tm.av) aO hx (aM x)
  have hst:=KJ Tm.nodes hx
  have hvl:=A4 (l.take i) []
  simp only[aX,iA] at hvl
  have htk:x.vars (cF (l.take i) [])=cF (l.take (i+1)) []:=by
   rw[gC,hx,PX]
   try rfl
  simp -implicitDefEqProofs only[bR,aF,hat,aY,aM,aA,seval,GX]
  refine(H7 x (cF (l.take i) []) b st (Tm.vV x (hok x (dA hx)).1.2.1) hb (by omega)).mono ?_
  rintro _ _ ⟨b',rfl,rfl,hb'⟩
  rw[htk] at hb' ⊢
  simp -implicitDefEqProofs only[aA,seval]
  exact⟨(),b',hb',aP.mk (by simp -implicitDefEqProofs only[hw,aA,seval])⟩
 simp -implicitDefEqProofs only[hge,eS,jF,qO,mV,fG,aF,aA,seval,GX]
 have hR:rB l=l.map fun t=>t.aN fun v=>vr (fP v (cF l []) 0):=rfl
 rw[hR]
 generalize cF l []=vars at *
 refine vG (σ:=Unit) [1000000] [0,2,3] l 4 5 (fun i _=>((l.take i).map fun t=>t.aN fun v=>vr (fP v vars 0)).map Tm.av) (fun _ _=>True) (fun i _=>[(6,.int .i64 i)]) (fun _ _=>st) (fun i _ _ e he=>by simp only[cY] at he;obtain⟨t,_,rfl⟩:=he;exact⟨cP _,aM _⟩) (by decide +kernel) ⟨(),0,trivial,fun h=>absurd rfl h,aP.mk (by simp -implicitDefEqProofs only[jV,l7,aW,aA,↓aS,seval])⟩ (fun i x s b hx hlt bR hdr hinv hb=>?_) (fun s b hge hinv=>?_)
 case refine_2=>
  simp -implicitDefEqProofs only[hge,eS,jF,mV,fG,aF,aA,seval,GX]
  exact⟨rfl,aL.refl _⟩
 have hw:=bO (n:=(i:Int)+1)
 have hat:=bQ (av:=Tm.av) aO hx (aM x)
 have hxm:=dA hx
 have c8:(((l.take i).map fun t=>t.aN fun v=>vr (fP v vars 0)).map Tm.av).length=i:=by simp only[aF,eC];omega
 simp -implicitDefEqProofs only[bR,aF,hat,aY,aM,aA,seval,GX]
 refine(aAP vars UH (by omega) x _ (hok x hxm).1.small (hok x hxm).1.2.1 (fun v hv=>(iB v).2 (.inr ⟨x,hxm,hv⟩))).to ?_
 simp -implicitDefEqProofs only[aY,aM,cP,aA,seval,GX]
 refine eE aO bF bG rfl rfl (fL (aM _) (cH _)) (d9 _) hb (by simp only[c8,aT,aX];omega) (by simp only[c8,aT,aX];omega) (fun b' hb'=>?_)
 rw[show(((l.take i).map fun t=>t.aN fun v=>vr (fP v vars 0)).map Tm.av)++ [(x.aN fun v=>vr (fP v vars 0)).av]=((l.take (i+1)).map fun t=>t.aN fun v=>vr (fP v vars 0)).map Tm.av by rw[gC,hx];simp] at hb' ⊢
 simp -implicitDefEqProofs only[aA,seval]
 exact⟨(),b',hb',aP.mk (by simp -implicitDefEqProofs only[hw,aA,seval])⟩
abbrev aRS:=zi tI_3 (zi zI_3 (zi aU (zi tI_4 (zi zI_4 (zi cI (zi tI_28 (zi zI_28 (zi aO (zi bF (zi bG (zi bZ (zi tI_52 (zi zI_52 (zi bU (zi bV (zi bX (zi bY bT)))))))))))))))))
theorem aWS(l:List Tm)(st:aB):aD prog 162 [.slice (l.map Tm.av)] st (fun r st'=>r=.bool (l.all Tm.valid)∧st'=st):=by
 refine wF [1000000] 1 func162 ntmps162 rfl rfl ?_
 simp only[eQ,AV.fits,eR,aF]
 intro ⟨hl,_⟩
 simp -implicitDefEqProofs only[aA,seval]
 refine eL (σ:=Unit) [1000000] [0] l (fun i _=>((l.drop i).all Tm.valid)=(l.all Tm.valid)) (fun i _=>[(3,.int .i64 i)]) (fun _ _=>st) (by decide +kernel) ⟨(),rfl,aP.mk (by simp -implicitDefEqProofs only[aA,↓aS,seval])⟩ (fun i x _ hx hlt bR hdr hinv=>?_) (fun _ hge hinv=>?_)
 case refine_2=>
  simp -implicitDefEqProofs only[hge,aF,aA,seval,aRS]
  rw[←hinv,lH]
  try rfl
 have hw:=bO (n:=(i:Int)+1)
 rw[hdr,k0] at hinv
 simp -implicitDefEqProofs only[bR,aF,bQ (av:=Tm.av) aO hx (aM x),aY,aM,aA,seval,aRS]
 refine(SK x _).to ?_
 simp -implicitDefEqProofs only[aA,seval]
 refine aQ (fun h2=>?_) (fun h2=>?_)
 · simp -implicitDefEqProofs only[aA,seval]
   simp only[lT] at h2
   rw[←hinv,h2]
   try rfl
 · simp only[qD] at h2
   rw[h2,eP] at hinv
   simp -implicitDefEqProofs only[aA,seval]
   exact⟨(),hinv,aP.mk (by simp -implicitDefEqProofs only[hw,aA,seval])⟩
theorem aOW(v:Int):∀(l:List Int) (i:Int),v∈l→i≤fP v l i∧fP v l i<i+l.length
 | [],i,h=>by cases h
 | x::l,i,h=>by
  simp only[fP,aT]
  split
  · omega
  · rename_i e
    have h':v∈l:=by
     rcases dB.1 h with h | h
     · exact absurd h e
     · exact h
    have:=aOW v l (i+1) h'
    omega
theorem aQE{N:Int}{l:List Tm}(hok:∀t∈l,bP N t)(hf:l.all eX=true):(rB l).all Tm.valid=decide ((cF l []).length≤26):=by
 have iB:=fun v=>A5 (v:=v) l [] fun t ht=>(hok t ht).1.2.1
 have UH:=PY l [] (fun t ht=>Tm.vV t (hok t ht).1.2.1) mK
 have hro:∀t∈l,cO (cF l []).length (t.aN fun v=>vr (fP v (cF l []) 0)):=fun t ht=>
  (hok t ht).1.aN fun v hv=>by
   have:=aOW v (cF l []) 0 ((iB v).2 (.inr ⟨t,ht,hv⟩))
   exact J2 (by omega) (by omega)
 have g7:∀t∈l,eX (t.aN fun v=>vr (fP v (cF l []) 0))=true:=fun t ht=>by
  have:=eM.1 hf t ht
  unfold eX at this ⊢
  rw[show(t.aN fun v=>vr (fP v (cF l []) 0))=cC (fun v=>fP v (cF l []) 0) t from rfl,WH _ (hok t ht).1.2.1,OR _ (hok t ht).1.2.1]
  exact this
 rw[vI,eM,bK]
 constructor
 · intro h
   refine D9 fun hn=>?_
   obtain⟨w,hw⟩:∃w,(cF l [])[26]?=some w:=⟨_,fF (by omega)⟩
   rcases (iB w).1 (dA hw) with h1 | ⟨t,ht,hv⟩
   · cases h1
   · have kL:=h _ (cY.2 ⟨t,ht,rfl⟩)
     have hin:=(Tm.LF kL).2.2 26 ((A6 t).2 ⟨w,hv,by rw[VB UH hw 0,A7];simp⟩)
     omega
 · intro h x hx
   obtain⟨t,ht,rfl⟩:=cY.1 hx
   have h1:=aPV.2 ((hro t ht).mono (show((cF l []).length:Int)≤26 by omega))
   rw[Tm.aS6 h1]
   exact g7 t ht
theorem a5X{N:Int}{l:List Tm}(hok:∀t∈l,bP N t):(rB l).length=l.length:=by unfold rB;rw[aF]
abbrev yK:=zi tI_3 (zi zI_3 (zi aU (zi tI_4 (zi zI_4 (zi cI (zi tI_28 (zi zI_28 (zi aO (zi bF (zi bG (zi bZ (zi tI_40 (zi zI_40 (zi dT (zi fJ (zi fK (zi fU (zi tI_52 (zi zI_52 (zi bU (zi bV (zi bX (zi bY (zi bT (zi tI_55 (zi zI_55 (zi CL B1)))))))))))))))))))))))))))
theorem aXX{N:Nat}{σ:Sub}(hg:cX σ)(ho:c9 (bP N) σ)(vars:List Int)(hv:∀v∈vars,0≤v∧v<(N:Int))(hl:vars.length≤1000)(st:aB) :
 aD prog 129 [.slice (vars.map iv),.slice (dE N σ)] st (fun r st'=>st'=st∧∃a,r=.tup [cD a,.bool (jW σ vars).isSome]∧∀x,jW σ vars=some x→a=x):=by
 obtain⟨rk,B,G⟩:=hg.rs
 refine aD.kS (aD.soft ?_)
 refine wF [1000000] 2 func129 ntmps129 rfl rfl ?_
 intro _
 simp -implicitDefEqProofs only[aA,seval,yK]
 intro b4 h4
 refine vG (σ:=Unit) [1000000] [0,1,4] vars 4 6 (fun i _=>((vars.take i).map (rs σ)).map Tm.av) (fun i _=>((vars.take i).map (rs σ)).all eX=true) (fun i _=>[(5,.bool false),(7,.int .i64 i)]) (fun _ _=>st.aC b4 (.cells [.fslice []])) (fun i _ _ e he=>by simp only[cY] at he;obtain⟨t,_,rfl⟩:=he;exact⟨cP _,aM _⟩) (by decide +kernel) ⟨(),0,rfl,fun h=>absurd rfl h,aP.mk (by simp -implicitDefEqProofs only[jV,l7,aW,aA,↓aS,seval])⟩ (fun i x s b hx hlt bR hdr hinv hb=>?_) (fun s b hge hinv=>?_)
 · have hw:=bO (n:=(i:Int)+1)
   have hxm:=dA hx
   obtain⟨hx0,hx1⟩:=hv x hxm
   have hvr:bP N (vr x):=⟨J2 hx0 hx1,by rw[vr,Tm.iS];simp [bH]⟩
   have hat:dN prog 40 (.slice (vars.map iv)) (.int .i64 (i:Int))=some (.pptr (.int .i64 x)):=bQ (av:=iv) dT hx rfl
   have c8:(((vars.take i).map (rs σ)).map Tm.av).length=i:=by simp only[aF,eC];omega
   have cS:((vars.take (i+1)).map (rs σ)).all eX=eX (rs σ x):=by
    rw[gC,hx]
    simp only[HF,oY,bB,aW,EA,hinv,k0,List.all_nil,BA,eP]
   simp -implicitDefEqProofs only[bR,aF,hat,aA,seval,yK]
   refine(MJ x _).to ?_
   simp -implicitDefEqProofs only[aA,seval]
   refine(aA8 hg ho (vr x) hvr _).mono ?_
   rintro _ _ ⟨rfl,y,rfl,hy⟩
   rw[xY] at hy ⊢
   simp -implicitDefEqProofs only[aM,cH,cP,aA,↓aS,seval,yK]
   refine aQ (fun h=>?_) (fun h=>?_)
   · have h':eX (rs σ x)=false:=by simpa using h
     have rT:jW σ vars=none:=by
      unfold jW
      rw[aE]
      rintro⟨h1,_⟩
      have:=eM.1 h1 _ (cY.2 ⟨x,hxm,rfl⟩)
      rw[h'] at this;cases this
     have hbo:∀l,(l≠[]→st b=none)→(l≠[]→b≠b4)→(aV (st.aC b4 (.cells [.fslice []])) b l) b4=some (.cells [.fslice []]):=fun l _ h2=>by
      cases l with
      | nil=>exact aB.aJ _ _ _
      | cons e l=>simp only[aV];rw[aB.aG _ _ (dG (h2 (by simp)))];exact aB.aJ _ _ _
     have hnb:((vars.take i).map (rs σ)).map Tm.av≠[]→b≠b4:=fun h=>by rintro rfl;have:=hb h;rw[aB.aJ] at this;cases this
     have a2G:((vars.take i).map (rs σ)).map Tm.av≠[]→st b=none:=fun h=>by have:=hb h;rw[aB.aG _ _ (hnb h)] at this;exact this
     have e1:=hbo _ a2G hnb
     simp -implicitDefEqProofs only[aK,e1,aA,seval,yK]
     rw[rT]
     refine⟨st,?_,rfl,[],rfl,fun x h=>by cases h⟩
     intro z
     by_cases hz:z=b4
     · subst hz;simp [aB.aC,h4]
     · rw[aB.aG _ _ hz]
       exact((aL.aV (aL.refl _) hb).trans ((aL.refl st).aC h4)) z
   · have h':eX (rs σ x)=true:=by simpa using h
     obtain rfl:=hy h'
     simp -implicitDefEqProofs only[aY,aM,cP,aA,seval,yK]
     refine eE aO bF bG rfl rfl (fL (aM _) (cH _)) (d9 _) hb (by simp only[c8,aT,aX];omega) (by simp only[c8,aT,aX];omega) (fun b' hb'=>?_)
     rw[show(((vars.take i).map (rs σ)).map Tm.av)++ [(rs σ x).av]=((vars.take (i+1)).map (rs σ)).map Tm.av by rw[gC,hx];simp] at hb' ⊢
     simp -implicitDefEqProofs only[hw,aA,seval]
     exact⟨(),b',by rw[cS];exact h',hb',aP.mk (by simp -implicitDefEqProofs only[aA,seval])⟩
 · rw[fG] at hinv
   have hok:∀t∈vars.map (rs σ),bP N t:=fun t ht=>by
    obtain⟨v,h,rfl⟩:=cY.1 ht
    obtain⟨h0,h1⟩:=hv v h
    have hf:=eM.1 hinv _ ht
    unfold eX at hf
    simp only[cE,bK] at hf
    exact⟨G.m7 ho.m7 v h0 h1,hf.2⟩
   have kL:=aQE hok hinv
   have rT:jW σ vars=if(cF (vars.map (rs σ)) []).length≤26 then some (rB (vars.map (rs σ))) else none:=by
    unfold jW
    simp only[hinv,tM]
   have a2S:=fun st=>aW2 _ hok (by rw[aF];exact hl) st
   have cS:=fun st=>aWS (rB (vars.map (rs σ))) st
   rw[kL] at cS
   generalize rB (vars.map (rs σ))=R at *
   generalize (cF (vars.map (rs σ)) []).length=m at *
   simp -implicitDefEqProofs only[hge,eS,rP,jF,I6,mV,fG,xK,aF,aA,seval,yK]
   refine(a2S _).to ?_
   simp -implicitDefEqProofs only[aA,↓aS,seval,yK]
   refine wP [(1,1),(0,2),(2,2),(3,2),(4,0),(5,1)] [1,0,2,3,5] mixed ?_
   simp -implicitDefEqProofs only[aA,seval,yK]
   refine j6 (cS _) ?_
   simp -implicitDefEqProofs only[aK,aA,seval,yK]
   refine⟨st,(aL.refl _).aC h4,rfl,R,?_,fun x h=>?_⟩
   · rw[rT]
     simp only[jI,jQ,sB,nA,bB,aW]
     by_cases h:m≤26
     · simp [h]
     · simp [h]
   · rw[rT] at h
     split at h
     · cases h;rfl
     · cases h
theorem WF(k n:Int)(s:ByteArray)(ts:List Tm)(rest:List RG)(left:List Nat)(σ:Sub)(N:Nat):gP ⟨.mk k n s ts,rest,left,σ,N⟩=.agg [.int .i64 k,.int .i64 n,.str s,.slice (ts.map Tm.av),.slice (rest.map fC),.slice (left.map nv),.slice (dE N σ)]:=rfl
structure y7 (p:List Cl) (c:RC):Prop where
 iR:cX c.σ
 ok:c9 (bP c.N) c.σ
 xD:∀n,¬(0≤n∧n<(c.N:Int))→c.σ n=none
 goal:bP c.N c.goal
 rest:∀g∈c.rest,bP c.N g.t∧g.t.k=3
 left:∀i∈c.left,i<p.length
 len:c.rest.length≤524288
 a33:c.left.length≤1048576
structure rI (p:List Cl) (B:Nat) (s:RS):Prop where
 iR:cX s.σ
 ok:c9 (bP s.N) s.σ
 xD:∀n,¬(0≤n∧n<(s.N:Int))→s.σ n=none
 goals:∀g∈s.goals,bP s.N g.t∧g.t.k=3
 pos:0<s.N
 hN:s.N≤B
 gl:s.goals.length≤B
 rN:s.chs.length≤B
 chs:∀c∈s.chs,y7 p c∧c.N+26≤B∧c.rest.length+26≤B∧0<c.N
theorem c9.upN{N M:Nat}{σ:Sub}(h:c9 (bP N) σ)(hm:N≤M):c9 (bP M) σ:=h.imp fun t ht=>ht.mono (by omega)
theorem aUQ{N k:Nat}{σ:Sub}(hd:∀n,¬(0≤n∧n<(N:Int))→σ n=none):dE N σ++List.replicate k zt=dE (N+k) σ:=by
 apply LM
 intro i
 have hl:=vS N σ
 by_cases hi:i<N
 · rw[X8 (by omega),B0 N σ hi,B0 (N+k) σ (by omega)]
 · rw[X9 (by omega),hl]
   by_cases h2:i<N+k
   · rw[B0 (N+k) σ h2,hd (i:Int) (fun h=>hi (by omega)),List.getElem?_replicate,aH (by omega)]
     try rfl
   · rw[yU (by simp;omega),yU (by rw[vS];omega)]
theorem aUJ{N k b:Nat}{σ:Sub}(hd:∀n,¬(0≤n∧n<(N:Int))→σ n=none)(hN:N+k≤1048576){st:aB}{K:AV→aB→Prop}(hb:st b=none)
 (hK:∀b',st b'=none→K (.mslice b' 0 (N+k) 4) (st.aC b' (.cells ((dE (N+k) σ).flatMap AV.cells)))) :
 tW prog 28 3 (st.aC b (.cells ((dE N σ).flatMap AV.cells))) (.mslice b 0 N 4) (.int .i64 (k:Int)) K:=by
 have hu:prog.underlying 3=some (.int .i64):=by kernel_rfl
 have hl:((dE N σ).flatMap AV.cells).length=N*4:=by rw[qP (fun e he=>(ZI N σ e he).1),vS]
 have kV:((dE N σ).flatMap AV.cells).take (N*4)++nS [AV.int .i64 0,.int .i64 0,.str ⟨#[]⟩,.fslice []] k=(dE (N+k) σ).flatMap AV.cells:=by
  rw[←hl,fG,aO8 _ (by simp),←aUQ hd,BF,List.flatMap_replicate]
  try rfl
 unfold tW
 simp only[aO,bF,bG,hu,aB.aJ,jT]
 refine⟨rfl,by omega,rfl,by omega,trivial,by omega,by omega,by omega,?_,fun b' hb'=>?_⟩
 · rw[kV,cK]
   exact hK b hb
 · rw[kV,aB.xH st b _ hb]
   refine hK b' ?_
   by_cases h:b'=b
   · subst h;exact hb
   · rwa [aB.aG _ _ h] at hb'
theorem aSV{st s2 V:aB}{o' o6:AO}{b6 b11 b13 b14 b:Nat}{L A:List AV}(hD:aL s2 st)(hA:s2 b11=some (.cells (A.flatMap AV.cells)))(h11:st b11=none)(h6:st b6=none)(h62:s2 b6≠none)(aNO:b6≠b11)(h13:s2 b13=none)(h14:s2 b14=none)
 (hV:∀q,q≠b13→q≠b14→V q=s2 q) (NJ:V b13≠none) (FI:V b14≠none) (hb:L≠[]→V b=none) (hne:A≠[]) :
 aL (((aV V b L).aC b13 o').aC b6 o6) (aV (aV st b11 A) b L)∧(L≠[]→(aV st b11 A) b=none):=by
 have aNY:b13≠b11:=by rintro rfl;rw[h13] at hA;cases hA
 have a1A:b14≠b11:=by rintro rfl;rw[h14] at hA;cases hA
 have NF:b13≠b6:=by rintro rfl;exact h62 h13
 have n13:st b13=none:=(hD b13).1 h13
 have n14:st b14=none:=(hD b14).1 h14
 rw[jD hne]
 have hbb:L≠[]→b≠b13∧b≠b11∧b≠b6∧b≠b14∧s2 b=none:=fun h=>by
  have h0:=hb h
  have e13:b≠b13:=by rintro rfl;exact NJ h0
  have e14:b≠b14:=by rintro rfl;exact FI h0
  rw[hV b e13 e14] at h0
  exact⟨e13,(by rintro rfl;rw[h0] at hA;cases hA),(by rintro rfl;exact h62 h0),e14,h0⟩
 refine⟨fun q=>?_,fun h=>?_⟩
 · by_cases q6:q=b6
   · subst q6
     have:aV (st.aC b11 (.cells (A.flatMap AV.cells))) b L q=none:=by
      by_cases hL:L= []
      · subst hL;simp only[aV];rw[aB.aG _ _ aNO,h6]
      · obtain⟨_,_,e6,_⟩:=hbb hL
        rw[jD hL,aB.aG _ _ (dG e6),aB.aG _ _ aNO,h6]
     rw[this];simp
   rw[aB.aG _ _ q6]
   by_cases q13:q=b13
   · subst q13
     have:aV (st.aC b11 (.cells (A.flatMap AV.cells))) b L q=none:=by
      by_cases hL:L= []
      · subst hL;simp only[aV];rw[aB.aG _ _ aNY,n13]
      · obtain⟨e13,_⟩:=hbb hL
        rw[jD hL,aB.aG _ _ (dG e13),aB.aG _ _ aNY,n13]
     rw[this];simp
   rw[aB.aG _ _ q13]
   have rest:q≠b∨L= []→(V q=none→st.aC b11 (.cells (A.flatMap AV.cells)) q=none)∧∀o,st.aC b11 (.cells (A.flatMap AV.cells)) q=some o→V q=some o:=fun _=>by
    by_cases q14:q=b14
    · subst q14
      rw[aB.aG _ _ a1A,n14]
      simp
    rw[hV q q13 q14]
    by_cases q11:q=b11
    · subst q11;rw[aB.aJ,hA];simp
    rw[aB.aG _ _ q11]
    exact hD q
   by_cases hL:L= []
   · subst hL
     exact rest (.inr rfl)
   · rw[jD hL,jD hL]
     by_cases qb:q=b
     · subst qb;rw[aB.aJ,aB.aJ];simp
     rw[aB.aG _ _ qb,aB.aG _ _ qb]
     exact rest (.inl qb)
 · obtain⟨e13,e11,e6,e14,h0⟩:=hbb h
   rw[aB.aG _ _ e11]
   exact(hD b).1 h0
theorem ES{st:aB}{b q:Nat}{l:List AV}{o:AO}(hb:l≠[]→st b=none)(h:st q=some o):aV st b l q=some o:=by
 cases l with
 | nil=>exact h
 | cons x l=>
  rw[jD (by simp),aB.aG _ _ (by rintro rfl;rw[hb (by simp)] at h;cases h)]
  exact h
theorem aM7{b b' o n w:Nat}{l:List AV}(h:l≠[]→b'≠b):(AV.mslice b' o n w).fin b l=.mslice b' o n w:=by
 unfold AV.fin
 cases l with
 | nil=>rfl
 | cons x l=>
  simp only[List.isEmpty_cons,jR,d4]
  cases o with
  | zero=>simp only[AV.fz];rw[aE (fun e=>h (by simp) e.1)];try rfl
  | succ o=>rfl
theorem NA{b N:Nat}{σ:Sub}(h0:0<N):(AV.mslice b 0 N 4).fin b (dE N σ)=.slice (dE N σ):=by
 have hl:=vS N σ
 have h:dE N σ≠[]:=by intro e;rw[e] at hl;simp at hl;omega
 have:aZ 4 b (dE N σ)=.mslice b 0 N 4:=by rw[pQ h,hl]
 rw[←this,jE]
theorem a5P(l:List RC):∀e∈l.map gP,e.cJ=false:=by intro e he;simp only[cY] at he;obtain⟨t,_,rfl⟩:=he;exact a5N t
theorem a5Q(l:List RC):∀e∈l.map gP,e.width=7:=by intro e he;simp only[cY] at he;obtain⟨t,_,rfl⟩:=he;exact OQ t
theorem aQW{φ:AF}{d i:Nat}{l:List Nat}(hi:i+1<l.length)(h:φ d=.int .i64 ((i:Int)+1)):fY prog φ 40 (.slice (l.map nv)) (some (.tmp d)) none none=some (.slice ((l.drop (i+1)).map nv)):=by
 have he:φ.eval (.tmp d)=.int .i64 ((i:Int)+1):=h
 have hb:dJ φ (some (.tmp d)) 0 l.length=some (i+1):=by
  simp only[dJ,he]
  rw[aH (by omega)]
  congr 1
 have hwo:wN (l.map nv) (i+1) 1=true:=by
  unfold wN
  rw[oX,fF hi]
  try rfl
 unfold fY
 rw[aE (by simp [pE])]
 simp only[nK,dT]
 rw[aE (by simp)]
 simp only[dJ] at hb ⊢
 have ht:List.take l.length (l.map nv)=l.map nv:=n7 (by simp)
 simp only[aF,hb,hwo,or_true,fS,ht]
 simp [yW]
abbrev tG:=zi tI_3 (zi zI_3 (zi aU (zi tI_4 (zi zI_4 (zi cI (zi tI_27 (zi zI_27 (zi eH (zi gK (zi gN (zi iJ (zi tI_28 (zi zI_28 (zi aO (zi bF (zi bG (zi bZ (zi tI_40 (zi zI_40 (zi dT (zi fJ (zi fK (zi fU (zi tI_52 (zi zI_52 (zi bU (zi bV (zi bX (zi bY (zi bT (zi tI_111 (zi zI_111 (zi kT (zi kU (zi kQ (zi tI_156 (zi zI_156 (zi xG (zi CF (zi CH (zi LB (zi tI_157 (zi zI_157 (zi zX (zi IM (zi IN (zi XT (zi tI_159 (zi zI_159 (zi IP (zi IQ (zi IR (zi HZ (zi tI_199 (zi zI_199 (zi S8 (zi S9 (zi TA (zi TB RM)))))))))))))))))))))))))))))))))))))))))))))))))))))))))))
theorem aA9(p:List Cl)(hp:∀c∈p,iC c∧c.2.length≤6)(gs0:List RG)(σ0:List AV)(cs:List RC)(c:RC)(hc:y7 p c)(h0:0<c.N)(hN:c.N≤524288)(hcl:cs.length≤524288)(st:aB) :
 aD prog 168 [.slice (p.map a9),.agg [.slice (gs0.map fC),.slice σ0,.slice (cs.map gP)],gP c] st (fun r st'=>st'=st∧r=match iG p cs c.goal c.rest c.σ c.N c.left with
  | some s=>.tup [uU s,.bool true]
  | none=>.tup [.agg [.slice (gs0.map fC),.slice σ0,.slice (cs.map gP)],.bool false]):=by
 obtain⟨goal,rest,left,σ,N⟩:=c
 obtain⟨hg,ho,hd,hgo,hr,hle,hrl,hll⟩:=hc
 simp only at hg ho hd hgo hr hle hrl hll h0 hN
 obtain⟨gk,gn,gs',gts⟩:=goal
 rw[WF]
 refine aD.fin (aD.fin (aD.kS ?_))
 refine wF [1000000,13] 3 func168 ntmps168 rfl rfl ?_
 intro _
 simp -implicitDefEqProofs only[aA,seval,tG]
 intro b6 h6
 generalize hW:st.aC b6 (.cells [.fslice [],.fslice [],.fslice []])=W
 have hW6:W b6=some (.cells [.fslice [],.fslice [],.fslice []]):=by rw[←hW];exact aB.aJ _ _ _
 have hDW:aL W st:=by rw[←hW];exact(aL.refl _).aC h6
 refine eL (σ:=Unit) [1000000] [0,4,5,6] left (fun i _=>iG p cs (.mk gk gn gs' gts) rest σ N (left.drop i)=iG p cs (.mk gk gn gs' gts) rest σ N left) (fun i _=>[(7,.bool false),(8,.int .i64 i)]) (fun _ _=>W) (by decide +kernel) ⟨(),rfl,aP.mk (by simp -implicitDefEqProofs only[aA,↓aS,seval])⟩ (fun i x _ hx hlt bR hdr hinv=>?_) (fun _ hge hinv=>?_)
 case refine_2=>
  simp -implicitDefEqProofs only[hge,aK,hW6,aF,aA,seval,tG]
  refine⟨st,?_,0,[],st,rfl,by simp,by simp,⟨0,by simp⟩,0,[],st,rfl,by simp,by simp,⟨0,by simp⟩,rfl,?_⟩
  · intro z
    have:=hDW z
    by_cases hz:z=b6
    · subst hz;simp [aB.aC,h6]
    · rw[aB.aG _ _ hz];exact this
  · rw[←hinv,lH]
    simp only[gG,kK,rP,jF,bB,aW,iG]
 have hw:=bO (n:=(i:Int)+1)
 have hxl:=hle x (dA hx)
 obtain⟨cl,hcx⟩:∃cl,p[x]?=some cl:=⟨_,fF hxl⟩
 obtain⟨uJ,rU⟩:=hp cl (dA hcx)
 rw[hdr,iG.eq_def] at hinv
 simp only[hcx] at hinv
 have hat:dN prog 40 (.slice (left.map nv)) (.int .i64 (i:Int))=some (.pptr (.int .i64 (x:Int))):=bQ (av:=nv) dT hx rfl
 have CR:=bQ (av:=a9) (P:=prog) eH hcx (jN cl)
 have hcf:=aXZ cl uJ rU
 obtain⟨⟨k,n,s',ts⟩,bd⟩:=cl
 rw[gI] at CR hcf
 simp only at hinv
 simp -implicitDefEqProofs only[bR,aF,vS,hat,CR,aA,↓aS,seval,tG]
 refine wX [(0,1),(1,1),(2,1),(4,1),(3,0),(5,0),(6,0),(7,1)] [0,1,2,4,7] dQ mixed rfl dY ?_
 simp -implicitDefEqProofs only[aA,seval,tG]
 have hfr:=uJ.fr.1
 have hHd:=uJ.dK N (.mk k n s' ts) (by simp)
 have hBd:=fun t ht=>(uJ.F5 t (List.mem_cons_of_mem _ ht))
 refine RK h0 (by omega) σ fun b hb hA0=>?_
 simp -implicitDefEqProofs only[aA,seval]
 refine⟨dY,?_⟩
 refine(hcf _).to ?_
 simp -implicitDefEqProofs only[aA,seval]
 refine⟨dY,?_⟩
 refine aUJ hd (by omega) hb fun b11 h11=>?_
 simp -implicitDefEqProofs only[aA,seval]
 refine⟨dY,?_⟩
 have hA:=(show gB (N+pV (.mk k n s' ts,bd)) (W.aC b11 (.cells ((dE (N+pV (.mk k n s' ts,bd)) σ).flatMap AV.cells))) b11 σ from aB.aJ _ _ _)
 have hDT:aL (W.aC b11 (.cells ((dE (N+pV (.mk k n s' ts,bd)) σ).flatMap AV.cells))) W:=(aL.refl _).aC h11
 have hh:=uJ.head
 generalize pV (.mk k n s' ts,bd)=fr at *
 generalize W.aC b11 (.cells ((dE (N+fr) σ).flatMap AV.cells))=T at *
 have hsh:Tm.sh (N:Int) (.mk k n s' ts)=dK N (.mk k n s' ts):=aQO N (by omega) _ hh.1
 have hcs:=SC (N:Int) (.mk k n s' ts)
 rw[hsh] at hcs
 have hun:=H2 (N:=N+fr) (by omega) hg (ho.upN (by omega)) (.mk gk gn gs' gts) (dK N (.mk k n s' ts)) (hgo.mono (by omega)) hHd b11
 generalize dK N (.mk k n s' ts)=y at *
 obtain⟨yk,yn,ys,yt⟩:=y
 refine wX [(0,1),(1,1),(2,1),(3,1),(4,1),(6,1),(5,0),(7,0),(8,1)] [0,1,2,3,4,6,8] dQ mixed rfl dY ?_
 simp -implicitDefEqProofs only[aA,seval,tG]
 have hsm:=hh.1.small
 simp only[a8] at hun hcs ⊢
 refine(hcs _ hsm).to ?_
 simp -implicitDefEqProofs only[aA,seval]
 refine⟨dY,?_⟩
 refine(hun _ hA).mono ?_
 rintro _ s2 ⟨rfl,hA2,hk2⟩
 simp -implicitDefEqProofs only[aA,seval]
 refine⟨dY,?_⟩
 generalize jZ σ (.mk gk gn gs' gts) (.mk yk yn ys yt)=u at *
 obtain⟨r,σ',tr⟩:=u
 simp only at hinv hA2 ⊢
 have NK:W b11=none:=h11
 have hDs:aL s2 W:=by
  intro q
  have key:∀o,W q=some o→s2 q=some o:=fun o h=>hk2 q o ((hDT q).2 o h) (by rintro rfl;rw[NK] at h;cases h)
  refine⟨fun h=>?_,key⟩
  cases hq:W q with
  | none=>rfl
  | some o=>rw[key o hq] at h;cases h
 refine aQ (fun h=>?_) (fun h=>?_)
 · have hr:r=false:=by simpa using h
   rw[aE (by rw[hr];simp)] at hinv
   simp -implicitDefEqProofs only[hw,aA,seval]
   exact⟨(),hinv,aP.drop hDs (by simp -implicitDefEqProofs only[aA,seval])⟩
 have hr':r=true:=by simpa using h
 rw[aH hr'] at hinv
 have hg9:=aA5 bd N cs.length rest hBd rU (by omega) (by omega)
 generalize hgs:bd.map (fun t=>(⟨dK N t,cs.length⟩:RG))++rest=gs2 at *
 simp -implicitDefEqProofs only[aF,aA,seval,tG]
 refine wP [(0,1),(1,1),(3,1),(5,1),(6,1),(7,1),(2,2),(4,2),(8,2),(9,1),(10,1),(11,0),(12,0)] [0,1,3,5,6,7,2,4,8,9,10] mixed ?_
 simp -implicitDefEqProofs only[aA,seval,tG]
 refine SO hg9 ?_
 simp -implicitDefEqProofs only[aK,aF,hw,aA,seval,tG]
 intro b13 h13
 have a00:b13≠b11:=by rintro rfl;rw[gB,h13] at hA2;cases hA2
 have h62:s2 b6≠none:=by rw[(hDs b6).2 _ hW6];simp
 have NF:b6≠b13:=by rintro rfl;exact h62 h13
 have aNN:b6≠b11:=by rintro rfl;rw[hW6] at NK;cases NK
 have N1:st b11=none:=(hDW b11).1 NK
 have aNR:=(hDs b6).2 _ hW6
 have hNf:0<N+fr:=by omega
 have pX:dE (N+fr) σ'≠[]:=by intro e;have:=vS (N+fr) σ';rw[e] at this;simp at this;omega
 refine aQ (fun h=>?_) (fun h=>?_)
 · have h':i+1<left.length:=by simp at h;omega
   have hsl:=fun(φ:AF) (d:Nat) (h:φ d=.int .i64 ((i:Int)+1))=>aQW h' h
   simp -implicitDefEqProofs only[aA,seval]
   refine wP [(0,1),(2,1),(4,1),(6,1),(7,1),(9,1),(1,2),(3,2),(5,2),(8,1),(10,2),(11,1),(12,0),(13,0)] [0,2,4,6,7,9,1,3,5,8,10,11] mixed ?_
   simp -implicitDefEqProofs only[aK,hsl,hw,aA,seval,tG]
   intro b14 h14
   have aOH:b14≠b13:=by rintro rfl;rw[aB.aJ] at h14;cases h14
   have TZ:s2 b14=none:=by rw[aB.aG _ _ aOH] at h14;exact h14
   have a01:b6≠b14:=by rintro rfl;exact h62 TZ
   generalize hV:(s2.aC b13 (AO.cells [AV.slice (gs2.map fC),AV.mslice b11 0 (N+fr) 4,AV.slice (cs.map gP)])).aC b14 (.cells [.int .i64 gk,.int .i64 gn,.str gs',.slice (gts.map Tm.av),.slice (rest.map fC),.slice ((left.drop (i+1)).map nv),.slice (dE N σ)])=V
   have FI:V b14=some (.cells [.int .i64 gk,.int .i64 gn,.str gs',.slice (gts.map Tm.av),.slice (rest.map fC),.slice ((left.drop (i+1)).map nv),.slice (dE N σ)]):=by rw[←hV];exact aB.aJ _ _ _
   have NJ:V b13=some (AO.cells [AV.slice (gs2.map fC),AV.mslice b11 0 (N+fr) 4,AV.slice (cs.map gP)]):=by rw[←hV,aB.aG _ _ (dG aOH)];exact aB.aJ _ _ _
   have hV6:V b6=some (.cells [.fslice [],.fslice [],.fslice []]):=by rw[←hV,aB.aG _ _ a01,aB.aG _ _ NF];exact aNR
   have hVq:∀q,q≠b13→q≠b14→V q=s2 q:=fun q e1 e2=>by rw[←hV,aB.aG _ _ e2,aB.aG _ _ e1]
   refine wX [(0,1),(1,1),(2,1),(4,1),(5,1),(3,0),(6,0),(7,1),(8,2)] [0,1,2,4,5,7] (one b14 (.cells [.int .i64 gk,.int .i64 gn,.str gs',.slice (gts.map Tm.av),.slice (rest.map fC),.slice ((left.drop (i+1)).map nv),.slice (dE N σ)])) mixed rfl (eV FI) ?_
   simp -implicitDefEqProofs only[wC,aA,seval,tG]
   have hlc:(cs.map gP).length=cs.length:=aF _
   refine eE (P:=prog) (b:=0) (l:=[]) (xs:=cs.map gP) zX IM IN rfl rfl (by intro e he;simp only[cY] at he;obtain⟨t,_,rfl⟩:=he;exact⟨OQ t,a5O t⟩) (by simp) (by simp) (by simp only[aX,hlc];omega) (by simp only[aX,hlc];omega) (fun b15 h15=>?_)
   rw[eD] at h15 ⊢
   simp -implicitDefEqProofs only[aA,seval]
   refine⟨eV (ES h15 FI),?_⟩
   refine eE (P:=prog) (b:=b15) (l:=cs.map gP) (xs:=[gP ⟨.mk gk gn gs' gts,rest,left.drop (i+1),σ,N⟩]) zX IM IN rfl rfl (fL rfl rfl) (by intro e he;simp only[cY] at he;obtain⟨t,_,rfl⟩:=he;exact OQ t) h15 (by simp only[aT,aX,hlc];omega) (by simp only[aT,aX,hlc];omega) (fun b16 h16=>?_)
   rw[show(cs.map gP)++ [gP ⟨.mk gk gn gs' gts,rest,left.drop (i+1),σ,N⟩]=(cs++ [(⟨.mk gk gn gs' gts,rest,left.drop (i+1),σ,N⟩:RC)]).map gP by simp] at h16 ⊢
   have g13:=ES h16 NJ
   have g14:=ES h16 FI
   have g6:=ES h16 hV6
   have hdn:left.drop (i+1)≠[]:=by intro e;have:=oC List.length e;simp at this;omega
   rw[aE hdn] at hinv
   generalize hLL:cs++ [(⟨.mk gk gn gs' gts,rest,left.drop (i+1),σ,N⟩:RC)]=LL at *
   have E:=aSV (o':=.cells [AV.slice (gs2.map fC),AV.mslice b11 0 (N+fr) 4,aZ 7 b16 (LL.map gP)]) (o6:=.cells [AV.slice (gs2.map fC),AV.mslice b11 0 (N+fr) 4,aZ 7 b16 (LL.map gP)]) (hDs.trans hDW) hA2 N1 h6 h62 aNN h13 TZ hVq (by rw[NJ];simp) (by rw[FI];simp) h16 pX
   simp -implicitDefEqProofs only[aK,NF,g13,g6,fH,mQ,aA,seval,tG]
   have hms:LL.map gP≠[]→b11≠b16:=by rintro h rfl;have:=h16 h;rw[hVq b11 (dG a00) (by rintro rfl;rw[gB,TZ] at hA2;cases hA2),hA2] at this;cases this
   refine⟨eV g14,_,E.1,b16,LL.map gP,_,rfl,fun h=>E.2 (by simpa using h),a5P LL,⟨7,a5Q LL⟩,b11,dE (N+fr) σ',st,rfl,fun _=>N1,HW _ _,⟨4,EV _ _⟩,rfl,?_⟩
   rw[←hinv]
   simp only[gG,kK,rP,jF,mV,bB,aW,aM7 hms,NA hNf]
   rfl
 · have h':left.drop (i+1)= []:=EC (by simp at h;omega)
   have E:=aSV (o6:=.cells [AV.slice (gs2.map fC),AV.mslice b11 0 (N+fr) 4,AV.slice (cs.map gP)]) (o':=.cells [AV.slice (gs2.map fC),AV.mslice b11 0 (N+fr) 4,AV.slice (cs.map gP)]) (b:=0) (L:=[]) (hDs.trans hDW) hA2 N1 h6 h62 aNN h13 h13 (fun q h _=>aB.aG s2 (.cells [AV.slice (gs2.map fC),AV.mslice b11 0 (N+fr) 4,AV.slice (cs.map gP)]) h) (by rw[aB.aJ];simp) (by rw[aB.aJ];simp) (by simp) pX
   simp -implicitDefEqProofs only[aK,NF,aNR,aB.aJ,aA,seval,tG]
   rw[aH h'] at hinv
   have E1:=E.1
   simp only[aV,cK] at E1
   refine⟨_,E1,0,[],_,rfl,by simp,by simp,⟨0,by simp⟩,b11,dE (N+fr) σ',st,rfl,fun _=>N1,HW _ _,⟨4,EV _ _⟩,rfl,?_⟩
   rw[←hinv]
   simp only[gG,kK,rP,jF,bB,aW,aM7 (l:=[]) (fun h=>absurd rfl h),NA hNf]
   rfl
end Go.AW
