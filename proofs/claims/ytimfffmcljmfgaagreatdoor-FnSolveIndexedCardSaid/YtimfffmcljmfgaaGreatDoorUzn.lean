import Derived.Test.YtimfffmcljmfgaaGreatDoorUzm
import Derived.Test.YtimfffmcljmfgaaGreatDoorUzj
import Derived.Test.YtimfffmcljmfgaaGreatDoorUzk
import Derived.Test.YtimfffmcljmfgaaGreatDoorUzf
import Derived.Lib.SliceRun
import Derived.Test.YtimfffmcljmfgaaGreatDoorUzl
set_option linter.unusedSimpArgs false
set_option linter.unusedVariables false
set_option maxRecDepth 100000
namespace Go.AW
open Go.Proofs.Tryz
abbrev aRG:=zi tI_3 (zi zI_3 (zi aZ (zi tI_46 (zi zI_46 (zi dK (zi fM (zi fJ (zi fX (zi tI_66 (zi zI_66 (zi bS (zi bT (zi bU (zi bV (zi bR (zi tI_116 zI_116))))))))))))))))
theorem aAI(bs:List Bt)(c p:Nat)(st:aB)(hp:p+5000≤1099511627776)(hR:dS st c bs p):aD prog 107 [.ptr c 0] st (Dr bs c p 5000 st PW):=by
 refine aD.nB ?_
 refine wF [1000000] 1 func107 ntmps107 rfl rfl ?_
 intro _
 simp -implicitDefEqProofs only[aA,seval,aRG]
 intro b hb
 have hbc:=hR.ne hb
 refine(y8 [3,2,4,1] (by simp) (by simp) bs c p (by omega) _ (hR.aC hbc)).mono ?_
 rintro _ _ ⟨y,hy,rfl,rfl⟩
 obtain⟨n,rfl,hn⟩:∃n:Nat,y=n∧n≤4:=by
  simp only[c8,dX,eC] at hy
  rcases hy with rfl | rfl | rfl | rfl
  · exact⟨3,rfl,by omega⟩
  · exact⟨2,rfl,by omega⟩
  · exact⟨4,rfl,by omega⟩
  · exact⟨1,rfl,by omega⟩
 have hpw:4 ^ (n+2)≤4096:=by
  have:=P9 (n:=4) (by omega) (show n+2≤6 by omega)
  simpa using this
 simp -implicitDefEqProofs only[aA,seval]
 refine(aAE bs c n (p+1) _ (by omega) (by omega) dS.new).mono ?_
 rintro _ _ ⟨p1,hp1,a2R,rfl,t1,ht1,rfl⟩
 rw[c7]
 simp -implicitDefEqProofs only[bY,cB,fB (bY _),eX (a7 _),aG,hbc,aA,seval,aRG]
 refine⟨st.aC c (cE bs p1),?_,p1,by omega,by omega,rfl,t1,ht1,rfl⟩
 intro x
 by_cases e4:x=b<;>by_cases ec:x=c<;>simp_all [aB.aC]
mutual
def Tm.sh(m:Int):Tm→Tm
 | .mk k n s ts=>.mk k (if k=1 then IntKind.i64.wrap (n+m) else n) s (O9 m ts)
def O9(m:Int):List Tm→List Tm
 | []=>[]
 | t::ts=>t.sh m::O9 m ts
end
theorem aSN(m:Int):∀ts:List Tm,O9 m ts=ts.map (Tm.sh m)
 | []=>rfl
 | t::ts=>by simp only[O9,aW,aSN m ts]
theorem Tm.VW(m k n:Int)(s:ByteArray)(ts:List Tm):(Tm.mk k n s ts).sh m=.mk k (if k=1 then IntKind.i64.wrap (n+m) else n) s (ts.map (Tm.sh m)):=by simp only[Tm.sh,aSN]
abbrev qQ:=zi tI_3 (zi zI_3 (zi aZ (zi tI_9 (zi zI_9 (zi cF (zi tI_31 (zi zI_31 (zi aO (zi bH (zi bJ (zi bZ (zi tI_66 (zi zI_66 (zi bS (zi bT (zi bU (zi bV bR)))))))))))))))))
theorem RH(m:Int):∀(t:Tm) (st:aB),t.small=true→aD prog 301 [t.av,.int .i64 m] st (fun r st'=>r=(t.sh m).av∧st'=st)
 | .mk k n s ts,st,hsm=>by
  obtain⟨hlen,qE⟩:=Tm.qO hsm
  have IH:=fun(x:Tm) (hx:x∈ts) st=>RH m x st (qE x hx)
  refine aD.sF (aD.fin ?_)
  simp only[aY]
  refine wF [1000000,5] 2 func301 ntmps301 rfl rfl ?_
  simp only[d5,AV.fits,d9,aF]
  intro ⟨_,_,_,hl,_⟩
  simp -implicitDefEqProofs only[aG,aA,↓aX,seval,qQ]
  intro b2 hb2 c hc
  have hne:c≠b2:=by rintro rfl;rw[aB.aP] at hc;cases hc
  have hn2:st c=none:=by rw[aB.aJ st _ hne] at hc;exact hc
  have oL:b2≠c:=c9 hne
  have hS:(st.aC b2 (.cells [AV.int .i64 0,AV.int .i64 0,AV.str ⟨#[]⟩,AV.fslice []])) b2≠none:=by rw[aB.aP];simp
  refine aS (fun h=>?_) (fun h=>?_)
  · simp only[bL] at h
    simp -implicitDefEqProofs only[aG,c7,aA,seval,qQ]
    refine eH (σ:=Nat) [1000000] [1,2,4,5] ts (fun i b=>(((ts.take i).map (Tm.sh m)).map Tm.av≠[]→(aB.aC (st.aC b2 (.cells [AV.int .i64 0,AV.int .i64 0,AV.str ⟨#[]⟩,AV.fslice []])) c (.cells ([AV.int .i64 k,AV.int .i64 (IntKind.i64.wrap (n+m)),AV.str s]++ [bM 4 b (((ts.take i).map (Tm.sh m)).map Tm.av)]))) b=none)) (fun i b=>[(6,.int .i64 i)]) (fun i b=>f9 (st.aC b2 (.cells [AV.int .i64 0,AV.int .i64 0,AV.str ⟨#[]⟩,AV.fslice []])) c b [AV.int .i64 k,AV.int .i64 (IntKind.i64.wrap (n+m)),AV.str s] (((ts.take i).map (Tm.sh m)).map Tm.av)) (by decide +kernel)
     ⟨0,fun h=>absurd rfl h,aN.mk (by simp -implicitDefEqProofs only[aA,↓aX,seval])⟩ (fun i x b hx hlt bQ hdr hinv=>?_) (fun b hge hinv=>?_)
    case refine_1=>
     have hw:=bE (n:=(i:Int)+1)
     have dA:(((ts.take i).map (Tm.sh m)).map Tm.av).length=i:=by simp only[aF,dQ];omega
     have htk:(ts.take (i+1)).map (Tm.sh m)=(ts.take i).map (Tm.sh m)++ [(Tm.sh m) x]:=by rw[fS,hx];simp
     have hbo:=fA hinv
     simp -implicitDefEqProofs only[aF,bQ,aA,seval,qQ]
     refine wP [(0,1),(2,1),(4,1),(7,1),(1,2),(3,2),(5,1),(6,2),(8,2),(9,1),(10,0),(11,1),(12,0)] [0,2,4,7,1,3,5,6,8,9,11] mixed ?_
     simp -implicitDefEqProofs only[bO (av:=Tm.av) aO hx (aK x),a7,aK,hbo,mE,iJ,aA,seval,qQ]
     refine iE (IH x (cJ hx) _) ?_
     simp -implicitDefEqProofs only[a7,aK,cM,iJ,aA,seval,qQ]
     refine fG aO bH bJ rfl rfl (gA (aK _) (cB _)) (eD _) hinv (by simp only[dA,aQ,bA];omega) (by simp only[dA,aQ,bA];omega) (fun b' hb'=>?_)
     rw[show(((ts.take i).map (Tm.sh m)).map Tm.av)++ [((Tm.sh m) x).av]=((ts.take (i+1)).map (Tm.sh m)).map Tm.av by rw[htk];simp] at hb' ⊢
     obtain⟨g1,g2,g3⟩:=pG hb'
     simp only[fQ,eS] at g1 g3
     simp -implicitDefEqProofs only[g3,m9,eP,aG,g1,hw,aG,aA,seval,qQ]
     exact⟨b',g2,aN.mk (by simp -implicitDefEqProofs only[aA,seval])⟩
    have hbo:=fA hinv
    rw[eN] at hinv hbo ⊢
    simp -implicitDefEqProofs only[aF,hge,aA,seval,qQ]
    simp -implicitDefEqProofs only[hbo,aG,aA,seval,qQ]
    have h1:=iA hinv hS oL
    rw[aB.aP] at h1
    simp -implicitDefEqProofs only[h1,eP,aA,seval]
    obtain⟨h2,h3⟩:=lB (o:=.cells [AV.int .i64 k,AV.int .i64 (IntKind.i64.wrap (n+m)),AV.str s,bM 4 b ((ts.map (Tm.sh m)).map Tm.av)]) hinv hS oL
    refine⟨b,_,_,h2,h3,jJ _,⟨4,eD _⟩,?_,(((aL.refl _).aC hb2).aC hn2).aC hb2⟩
    simp only[gJ,aW,aU,eT,jP,jE,←aY]
    rw[Tm.VW,aH h]
  · simp only[cP] at h
    simp -implicitDefEqProofs only[aA,seval]
    refine eH (σ:=Nat) [1000000] [1,2,4,5] ts (fun i b=>(((ts.take i).map (Tm.sh m)).map Tm.av≠[]→(aB.aC (st.aC b2 (.cells [AV.int .i64 0,AV.int .i64 0,AV.str ⟨#[]⟩,AV.fslice []])) c (.cells ([AV.int .i64 k,AV.int .i64 (n),AV.str s]++ [bM 4 b (((ts.take i).map (Tm.sh m)).map Tm.av)]))) b=none)) (fun i b=>[(6,.int .i64 i)]) (fun i b=>f9 (st.aC b2 (.cells [AV.int .i64 0,AV.int .i64 0,AV.str ⟨#[]⟩,AV.fslice []])) c b [AV.int .i64 k,AV.int .i64 (n),AV.str s] (((ts.take i).map (Tm.sh m)).map Tm.av)) (by decide +kernel)
     ⟨0,fun h=>absurd rfl h,aN.mk (by simp -implicitDefEqProofs only[aA,↓aX,seval])⟩ (fun i x b hx hlt bQ hdr hinv=>?_) (fun b hge hinv=>?_)
    case refine_1=>
     have hw:=bE (n:=(i:Int)+1)
     have dA:(((ts.take i).map (Tm.sh m)).map Tm.av).length=i:=by simp only[aF,dQ];omega
     have htk:(ts.take (i+1)).map (Tm.sh m)=(ts.take i).map (Tm.sh m)++ [(Tm.sh m) x]:=by rw[fS,hx];simp
     have hbo:=fA hinv
     simp -implicitDefEqProofs only[aF,bQ,aA,seval,qQ]
     refine wP [(0,1),(2,1),(4,1),(7,1),(1,2),(3,2),(5,1),(6,2),(8,2),(9,1),(10,0),(11,1),(12,0)] [0,2,4,7,1,3,5,6,8,9,11] mixed ?_
     simp -implicitDefEqProofs only[bO (av:=Tm.av) aO hx (aK x),a7,aK,hbo,mE,iJ,aA,seval,qQ]
     refine iE (IH x (cJ hx) _) ?_
     simp -implicitDefEqProofs only[a7,aK,cM,iJ,aA,seval,qQ]
     refine fG aO bH bJ rfl rfl (gA (aK _) (cB _)) (eD _) hinv (by simp only[dA,aQ,bA];omega) (by simp only[dA,aQ,bA];omega) (fun b' hb'=>?_)
     rw[show(((ts.take i).map (Tm.sh m)).map Tm.av)++ [((Tm.sh m) x).av]=((ts.take (i+1)).map (Tm.sh m)).map Tm.av by rw[htk];simp] at hb' ⊢
     obtain⟨g1,g2,g3⟩:=pG hb'
     simp only[fQ,eS] at g1 g3
     simp -implicitDefEqProofs only[g3,m9,eP,aG,g1,hw,aG,aA,seval,qQ]
     exact⟨b',g2,aN.mk (by simp -implicitDefEqProofs only[aA,seval])⟩
    have hbo:=fA hinv
    rw[eN] at hinv hbo ⊢
    simp -implicitDefEqProofs only[aF,hge,aA,seval,qQ]
    simp -implicitDefEqProofs only[hbo,aG,aA,seval,qQ]
    have h1:=iA hinv hS oL
    rw[aB.aP] at h1
    simp -implicitDefEqProofs only[h1,eP,aA,seval]
    obtain⟨h2,h3⟩:=lB (o:=.cells [AV.int .i64 k,AV.int .i64 (n),AV.str s,bM 4 b ((ts.map (Tm.sh m)).map Tm.av)]) hinv hS oL
    refine⟨b,_,_,h2,h3,jJ _,⟨4,eD _⟩,?_,(((aL.refl _).aC hb2).aC hn2).aC hb2⟩
    simp only[gJ,aW,aU,eT,jP,jE,←aY]
    rw[Tm.VW,aE h]
termination_by t=>SizeOf.sizeOf t
decreasing_by have:=List.sizeOf_lt_of_mem hx;simp only[Tm.mk.sizeOf_spec];omega
abbrev C8:=zi tI_3 (zi zI_3 (zi aZ (zi tI_9 (zi zI_9 (zi cF (zi tI_31 (zi zI_31 (zi aO (zi bH (zi bJ (zi bZ (zi tI_66 (zi zI_66 (zi bS (zi bT (zi bU (zi bV bR)))))))))))))))))
theorem aWN(k n:Int)(s:ByteArray)(ts:List Tm)(st:aB)(hsm:(Tm.mk k n s ts).small=true):aD prog 102 [(Tm.mk k n s ts).av] st (fun r st'=>∃b,r=.agg [.int .i64 k,.int .i64 n,.str s,bM 4 b (ts.map Tm.av)]∧st'=a8 st b (ts.map Tm.av)∧(ts.map Tm.av≠[]→st b=none)):=by
 obtain⟨hlen,qE⟩:=Tm.qO hsm
 have IH:=fun(x:Tm) (hx:x∈ts) st=>BS x st (qE x hx)
 refine aD.nB ?_
 simp only[aY]
 refine wF [] 1 func102 ntmps102 rfl rfl ?_
 simp only[d5,AV.fits,d9,aF]
 intro ⟨_,_,_,hl,_⟩
 simp -implicitDefEqProofs only[aA,seval,C8]
 intro b2 hb2 c hc
 have hne:c≠b2:=by rintro rfl;rw[aB.aP] at hc;cases hc
 have hn2:st c=none:=by rw[aB.aJ st _ hne] at hc;exact hc
 simp -implicitDefEqProofs only[aG,aA,seval]
 refine eH (σ:=Nat) [] [1,2,3] ts (fun i b=>(((ts.take i).map (fun y=>y)).map Tm.av≠[]→(aB.aC (st.aC b2 (.cells [AV.int .i64 0,AV.int .i64 0,AV.str ⟨#[]⟩,AV.fslice []])) c (.cells ([AV.int .i64 k,AV.int .i64 n,AV.str s]++ [bM 4 b (((ts.take i).map (fun y=>y)).map Tm.av)]))) b=none)) (fun i b=>[(4,.int .i64 i)]) (fun i b=>f9 (st.aC b2 (.cells [AV.int .i64 0,AV.int .i64 0,AV.str ⟨#[]⟩,AV.fslice []])) c b [AV.int .i64 k,AV.int .i64 n,AV.str s] (((ts.take i).map (fun y=>y)).map Tm.av)) (by decide +kernel)
  ⟨0,fun h=>absurd rfl h,aN.mk (by simp -implicitDefEqProofs only[aA,↓aX,seval])⟩ (fun i x b hx hlt bQ hdr hinv=>?_) (fun b hge hinv=>?_)
 case refine_1=>
  have hw:=bE (n:=(i:Int)+1)
  have dA:(((ts.take i).map (fun y=>y)).map Tm.av).length=i:=by simp only[aF,dQ];omega
  have htk:(ts.take (i+1)).map (fun y=>y)=(ts.take i).map (fun y=>y)++ [(fun y=>y) x]:=by rw[fS,hx];simp
  have hbo:=fA hinv
  simp -implicitDefEqProofs only[aF,bQ,aA,seval,C8]
  refine wP [(0,1),(2,1),(4,1),(1,2),(3,2),(5,1),(6,2),(7,2),(8,1),(9,0),(10,1),(11,0)] [0,2,4,1,3,5,6,7,8,10] mixed ?_
  simp -implicitDefEqProofs only[bO (av:=Tm.av) aO hx (aK x),a7,aK,hbo,mE,iJ,aA,seval,C8]
  refine iE (IH x (cJ hx) _) ?_
  simp -implicitDefEqProofs only[a7,aK,cM,iJ,aA,seval,C8]
  refine fG aO bH bJ rfl rfl (gA (aK _) (cB _)) (eD _) hinv (by simp only[dA,aQ,bA];omega) (by simp only[dA,aQ,bA];omega) (fun b' hb'=>?_)
  rw[show(((ts.take i).map (fun y=>y)).map Tm.av)++ [((fun y=>y) x).av]=((ts.take (i+1)).map (fun y=>y)).map Tm.av by rw[htk];simp] at hb' ⊢
  obtain⟨g1,g2,g3⟩:=pG hb'
  simp only[fQ,eS] at g1 g3
  simp -implicitDefEqProofs only[g3,m9,eP,aG,g1,hw,aA,seval,C8]
  exact⟨b',g2,aN.mk (by simp -implicitDefEqProofs only[aA,seval])⟩
 have hbo:=fA hinv
 rw[eN] at hinv hbo ⊢
 simp -implicitDefEqProofs only[aF,hge,aA,seval,C8]
 simp -implicitDefEqProofs only[hbo,aA,seval,C8]
 have oL:b2≠c:=c9 hne
 have hS:(st.aC b2 (.cells [AV.int .i64 0,AV.int .i64 0,AV.str ⟨#[]⟩,AV.fslice []])) b2≠none:=by rw[aB.aP];simp
 have h1:=iA hinv hS oL
 rw[aB.aP] at h1
 simp -implicitDefEqProofs only[h1,eP,aG,aA,seval]
 obtain⟨h2,h3⟩:=lB (o:=.cells [AV.int .i64 k,AV.int .i64 n,AV.str s,bM 4 b ((ts.map fun y=>y).map Tm.av)]) hinv hS oL
 simp only[fQ,eS] at h2 h3
 rw[h2]
 have D:∀o o' o'',aL (((st.aC b2 o).aC c o').aC b2 o'') st:=fun o o' o''=>(((aL.refl _).aC hb2).aC hn2).aC hb2
 simp only[List.map_id'] at h3 ⊢
 exact⟨_,SN (D _ _ _),b,rfl,rfl,fun h=>(D _ _ _ b).1 (h3 h)⟩
abbrev nK:=zi tI_3 (zi zI_3 (zi aZ (zi tI_9 (zi zI_9 (zi cF (zi tI_31 (zi zI_31 (zi aO (zi bH (zi bJ (zi bZ (zi tI_46 (zi zI_46 (zi dK (zi fM (zi fJ (zi fX (zi tI_66 (zi zI_66 (zi bS (zi bT (zi bU (zi bV (zi bR (zi tI_116 (zi zI_116 (zi tI_147 (zi zI_147 (zi jO (zi nC (zi nE n8)))))))))))))))))))))))))))))))
theorem RE(bs:List Bt)(c p:Nat)(t:Tm)(hsm:t.small=true)(st:aB)(hp:p+10≤1099511627776)(hR:dS st c bs p) :
 aD prog 106 [.ptr c 0,t.av] st (Dr bs c p 10 st (fun r=>∃t:Tm,r=t.av)):=by
 obtain⟨k,n,s,ts⟩:=t
 refine aD.nB (aD.fin ?_)
 refine wF [1000000,5] 2 func106 ntmps106 rfl rfl ?_
 intro _
 simp -implicitDefEqProofs only[aA,seval,nK]
 intro b4 h4
 have h4c:=hR.ne h4
 have hR':=fun o=>hR.aC (o:=o) h4c
 refine(aWN k n s ts _ hsm).mono ?_
 rintro _ _ ⟨b,rfl,rfl,hb⟩
 simp -implicitDefEqProofs only[eP,aG,aA,↓aX,seval,nK]
 intro b5 h5
 obtain⟨hn5,hb5⟩:=D4 h5
 have h54:b5≠b4:=by rintro rfl;rw[aB.aP] at hn5;cases hn5
 have TX:st b5=none:=by rw[aB.aJ _ _ h54] at hn5;exact hn5
 have h5c:b5≠c:=hR.ne TX
 have hW4:∀q,((st.aC b4 (.cells [.int .i64 0,.int .i64 0,.str ⟨#[]⟩,.fslice []])).aC c (cE bs q)) b4=some (.cells [.int .i64 0,.int .i64 0,.str ⟨#[]⟩,.fslice []]):=fun q=>by rw[aB.aJ _ _ h4c,aB.aP]
 have hdr:∀q Z Y,aL ((((st.aC b4 (.cells [.int .i64 0,.int .i64 0,.str ⟨#[]⟩,.fslice []])).aC c (cE bs q)).aC b5 Z).aC b4 Y) (st.aC c (cE bs q)):=fun q Z Y x=>by
  by_cases e4:x=b4<;>by_cases ec:x=c<;>by_cases e5:x=b5<;>simp_all [aB.aC]
 have e0:(a8 (st.aC b4 (.cells [.int .i64 0,.int .i64 0,.str ⟨#[]⟩,.fslice []])) b (ts.map Tm.av)).aC b5 (.cells [.int .i64 k,.int .i64 n,.str s,bM 4 b (ts.map Tm.av)])=f9 (st.aC b4 (.cells [.int .i64 0,.int .i64 0,.str ⟨#[]⟩,.fslice []])) b5 b [.int .i64 k,.int .i64 n,.str s] (ts.map Tm.av):=by
  rw[pV hb5];try rfl
 have i0:ts.map Tm.av≠[]→((st.aC b4 (.cells [.int .i64 0,.int .i64 0,.str ⟨#[]⟩,.fslice []])).aC b5 (.cells ([.int .i64 k,.int .i64 n,.str s]++ [bM 4 b (ts.map Tm.av)]))) b=none:=fun h=>by
  rw[aB.aJ _ _ (c9 (hb5 h))];exact hb h
 have hUc:(st.aC b4 (.cells [.int .i64 0,.int .i64 0,.str ⟨#[]⟩,.fslice []])) c≠none:=by rw[hR' _];simp
 rw[e0]
 have hRk:dS (f9 (st.aC b4 (.cells [.int .i64 0,.int .i64 0,.str ⟨#[]⟩,.fslice []])) b5 b [.int .i64 k,.int .i64 n,.str s] (ts.map Tm.av)) c bs p:=by
  unfold dS
  rw[iA i0 hUc h5c.symm]
  exact hR' _
 refine(oG bs c p (by omega) 50 (by omega) (by omega) _ hRk).mono ?_
 rintro _ _ ⟨j,hj,rfl,rfl⟩
 obtain⟨e1,i1⟩:=rI (o:=cE bs (p+1)) i0 hUc h5c.symm
 rw[e1]
 have hWc:∀q,((st.aC b4 (.cells [.int .i64 0,.int .i64 0,.str ⟨#[]⟩,.fslice []])).aC c (cE bs q)) c≠none:=fun q=>by rw[aB.aP];simp
 have hRq:∀q (hd l:List AV),(l≠[]→(((st.aC b4 (.cells [.int .i64 0,.int .i64 0,.str ⟨#[]⟩,.fslice []])).aC c (cE bs q)).aC b5 (.cells (hd++ [bM 4 b l]))) b=none)→dS (f9 ((st.aC b4 (.cells [.int .i64 0,.int .i64 0,.str ⟨#[]⟩,.fslice []])).aC c (cE bs q)) b5 b hd l) c bs q:=fun q hd l hi=>by
  unfold dS
  rw[iA hi (hWc q) h5c.symm,aB.aP]
  try rfl
 clear e0 i0 hRk e1
 simp -implicitDefEqProofs only[aA,seval]
 refine aS (fun h0=>?_) (fun h0=>?_)
 · simp -implicitDefEqProofs only[aA,seval,nK]
   refine(y8 [0,4,1,2,3] (by simp) (by simp) bs c (p+1) (by omega) _ (hRq _ _ _ i1)).mono ?_
   rintro _ _ ⟨y,_,rfl,rfl⟩
   obtain⟨e1,i1⟩:=rI (o:=cE bs (p+1+1)) i1 (hWc _) h5c.symm
   rw[c7] at e1 i1
   rw[e1]
   have hbo:=fA i1
   obtain⟨e2,i1⟩:=IU (hd':=[.int .i64 y,.int .i64 n,.str s]) i1
   simp only[fQ,eS] at e2
   simp -implicitDefEqProofs only[aG,hbo,aA,seval,nK]
   rw[e2]
   have hbo:=fA i1
   have h4o:=iA i1 (x:=b4) (by rw[hW4];simp) h54.symm
   rw[hW4] at h4o
   simp -implicitDefEqProofs only[h4o,eP,aA,seval]
   obtain⟨g5,g6⟩:=lB (o:=.cells [.int .i64 (y),.int .i64 (n),.str (s),bM 4 b ((ts).map Tm.av)]) i1 (show((st.aC b4 (.cells [.int .i64 0,.int .i64 0,.str ⟨#[]⟩,.fslice []])).aC c (cE bs (p+1+1))) b4≠none by rw[hW4];simp) h54.symm
   refine⟨b,_,_,g5,g6,jJ _,⟨4,eD _⟩,st.aC c (cE bs (p+1+1)),hdr _ _ _,p+1+1,by omega,by omega,rfl,.mk (y) (n) (s) (ts),?_⟩
   simp only[gJ,aW,aU,eT,jP,jE,aY]
 simp -implicitDefEqProofs only[aA,seval]
 refine aS (fun h0=>?_) (fun h0=>?_)
 · simp -implicitDefEqProofs only[aA,seval,nK]
   refine(y8 [26,1000,-1000,-1,1] (by simp) (by simp) bs c (p+1) (by omega) _ (hRq _ _ _ i1)).mono ?_
   rintro _ _ ⟨y,_,rfl,rfl⟩
   obtain⟨e1,i1⟩:=rI (o:=cE bs (p+1+1)) i1 (hWc _) h5c.symm
   rw[c7] at e1 i1
   rw[e1]
   have hbo:=fA i1
   obtain⟨e2,i1⟩:=IU (hd':=[.int .i64 k,.int .i64 y,.str s]) i1
   simp only[fQ,eS] at e2
   simp -implicitDefEqProofs only[aG,hbo,aA,seval,nK]
   rw[e2]
   have hbo:=fA i1
   have h4o:=iA i1 (x:=b4) (by rw[hW4];simp) h54.symm
   rw[hW4] at h4o
   simp -implicitDefEqProofs only[h4o,eP,aA,seval]
   obtain⟨g5,g6⟩:=lB (o:=.cells [.int .i64 (k),.int .i64 (y),.str (s),bM 4 b ((ts).map Tm.av)]) i1 (show((st.aC b4 (.cells [.int .i64 0,.int .i64 0,.str ⟨#[]⟩,.fslice []])).aC c (cE bs (p+1+1))) b4≠none by rw[hW4];simp) h54.symm
   refine⟨b,_,_,g5,g6,jJ _,⟨4,eD _⟩,st.aC c (cE bs (p+1+1)),hdr _ _ _,p+1+1,by omega,by omega,rfl,.mk (k) (y) (s) (ts),?_⟩
   simp only[gJ,aW,aU,eT,jP,jE,aY]
 simp -implicitDefEqProofs only[aA,seval]
 refine aS (fun h0=>?_) (fun h0=>?_)
 · simp -implicitDefEqProofs only[aA,seval,nK]
   refine(HI [⟨#[]⟩,⟨#[88]⟩,⟨#[116,111,111,108,111,110,103]⟩,⟨#[195,169]⟩,⟨#[97]⟩] (by simp) (by simp) bs c (p+1) (by omega) _ (hRq _ _ _ i1)).mono ?_
   rintro _ _ ⟨y,_,rfl,rfl⟩
   obtain⟨e1,i1⟩:=rI (o:=cE bs (p+1+1)) i1 (hWc _) h5c.symm
   rw[c7] at e1 i1
   rw[e1]
   have hbo:=fA i1
   obtain⟨e2,i1⟩:=IU (hd':=[.int .i64 k,.int .i64 n,.str y]) i1
   simp only[fQ,eS] at e2
   simp -implicitDefEqProofs only[aG,hbo,aA,seval,nK]
   rw[e2]
   have hbo:=fA i1
   have h4o:=iA i1 (x:=b4) (by rw[hW4];simp) h54.symm
   rw[hW4] at h4o
   simp -implicitDefEqProofs only[h4o,eP,aA,seval]
   obtain⟨g5,g6⟩:=lB (o:=.cells [.int .i64 (k),.int .i64 (n),.str (y),bM 4 b ((ts).map Tm.av)]) i1 (show((st.aC b4 (.cells [.int .i64 0,.int .i64 0,.str ⟨#[]⟩,.fslice []])).aC c (cE bs (p+1+1))) b4≠none by rw[hW4];simp) h54.symm
   refine⟨b,_,_,g5,g6,jJ _,⟨4,eD _⟩,st.aC c (cE bs (p+1+1)),hdr _ _ _,p+1+1,by omega,by omega,rfl,.mk (k) (n) (y) (ts),?_⟩
   simp only[gJ,aW,aU,eT,jP,jE,aY]
 simp -implicitDefEqProofs only[aA,seval]
 refine aS (fun h0=>?_) (fun h0=>?_)
 · simp -implicitDefEqProofs only[aA,seval]
   refine iN (σ:=Nat×List Tm) [1000000,5] [4,5,10] (fun x=>(x.2.map Tm.av≠[]→(aB.aC ((st.aC b4 (.cells [.int .i64 0,.int .i64 0,.str ⟨#[]⟩,.fslice []])).aC c (cE bs (p+1))) b5 (.cells ([.int .i64 k,.int .i64 n,.str s]++ [bM 4 x.1 (x.2.map Tm.av)]))) x.1=none)) (fun _=>[]) (fun x=>f9 ((st.aC b4 (.cells [.int .i64 0,.int .i64 0,.str ⟨#[]⟩,.fslice []])).aC c (cE bs (p+1))) b5 x.1 [.int .i64 k,.int .i64 n,.str s] (x.2.map Tm.av)) (fun x=>5 - x.2.length) (by decide +kernel) ⟨(b,ts),i1,aN.mk (by simp -implicitDefEqProofs only[aA,seval])⟩ ?_
   rintro⟨b,acc⟩ i1
   simp only at i1
   have hbo:=fA i1
   have haL:=vE (w:=4) (b:=b) (l:=acc.map Tm.av) bZ
   simp -implicitDefEqProofs only[hbo,mE,haL,aF,aA,seval,nK]
   refine aS (fun h1=>?_) (fun h1=>?_)
   · simp only[bL] at h1
     have dA:(acc.map Tm.av).length≤4:=by rw[aF];omega
     simp -implicitDefEqProofs only[aA,seval]
     refine GD [(0,1),(1,1),(2,0),(3,1),(4,0),(5,1),(6,2)] [0,1,3,5] (fE.aC b5 (.cells [.int .i64 k,.int .i64 n,.str s,bM 4 b (acc.map Tm.av)])) mixed (by decide +kernel) (by decide +kernel) (by decide +kernel) rfl (gH hbo) ?_
     simp -implicitDefEqProofs only[mE,aA,seval,nK]
     refine(EA 1 _).to ?_
     simp -implicitDefEqProofs only[a7,aK,cM,aA,seval,nK]
     refine⟨gH hbo,?_⟩
     refine fG aO bH bJ rfl rfl (gA (aK _) (cB _)) (eD _) i1 (by simp only[aQ,bA];omega) (by simp only[aQ,bA];omega) (fun b' hb'=>?_)
     rw[show acc.map Tm.av++ [(Tm.mk 2 1 ⟨#[]⟩ []).av]=(acc++ [Tm.mk 2 1 ⟨#[]⟩ []]).map Tm.av by simp] at hb' ⊢
     obtain⟨g1,g2,g3⟩:=pG hb'
     simp only[fQ,eS] at g1 g3
     simp -implicitDefEqProofs only[aG,eP,m9,aA,seval,nK]
     refine⟨gH g3,?_⟩
     simp -implicitDefEqProofs only[g3,g1,aA,seval]
     refine⟨(b',acc++ [Tm.mk 2 1 ⟨#[]⟩ []]),by simp only[dL,aQ,bA];omega,g2,aN.mk (by simp -implicitDefEqProofs only[aA,seval])⟩
   · simp -implicitDefEqProofs only[aG,hbo,eP,aA,seval,nK]
     have hbo:=fA i1
     have h4o:=iA i1 (x:=b4) (by rw[hW4];simp) h54.symm
     rw[hW4] at h4o
     simp -implicitDefEqProofs only[h4o,aA,seval]
     obtain⟨g5,g6⟩:=lB (o:=.cells [.int .i64 (k),.int .i64 (n),.str (s),bM 4 b ((acc).map Tm.av)]) i1 (show((st.aC b4 (.cells [.int .i64 0,.int .i64 0,.str ⟨#[]⟩,.fslice []])).aC c (cE bs (p+1))) b4≠none by rw[hW4];simp) h54.symm
     refine⟨b,_,_,g5,g6,jJ _,⟨4,eD _⟩,st.aC c (cE bs (p+1)),hdr _ _ _,p+1,by omega,by omega,rfl,.mk (k) (n) (s) (acc),?_⟩
     simp only[gJ,aW,aU,eT,jP,jE,aY]
 simp -implicitDefEqProofs only[aA,seval]
 refine aS (fun h0=>?_) (fun h0=>?_)
 · simp -implicitDefEqProofs only[aA,seval]
   have hW5:∀Z,((st.aC b4 (.cells [.int .i64 0,.int .i64 0,.str ⟨#[]⟩,.fslice []])).aC c (cE bs (p+1))).aC b5 Z b4=some (.cells [.int .i64 0,.int .i64 0,.str ⟨#[]⟩,.fslice []]):=fun Z=>by rw[aB.aJ _ _ h54.symm,hW4]
   refine eH (σ:=Tm) [1000000,5] [4,5] (List.range 30) (fun _ _=>True) (fun i _=>[(6,.int .i64 i)]) (fun _ u=>((st.aC b4 (.cells [.int .i64 0,.int .i64 0,.str ⟨#[]⟩,.fslice []])).aC c (cE bs (p+1))).aC b5 (.cells u.av.cells)) (by decide +kernel)
    ⟨.mk k n s ts,trivial,?_⟩ (fun i x u hx hlt bQ CD _=>?_) (fun u hge _=>?_)
   · rw[aY]
     exact(a4C i1 (jJ _) ⟨4,eD _⟩).trans (gM.k9 (by simp -implicitDefEqProofs only[aA,↓aX,seval]))
   · rw[KT] at hlt
     have a2F:decide ((i:Int)<30)=true:=by simp;omega
     have hw:=bE (n:=(i:Int)+1)
     simp -implicitDefEqProofs only[a2F,bY,a7,aK,cM,fB (bY _),eX (a7 _),aA,seval,nK]
     refine(tX ⟨#[115]⟩ [u] (by simp) _).to ?_
     simp -implicitDefEqProofs only[c7,aG,hw,bY,cB,aA,seval,nK]
     exact⟨.mk 3 0 ⟨#[115]⟩ [u],aN.mk (by simp -implicitDefEqProofs only[aA,seval])⟩
   · have a12:decide ((29:Int)+1<30)=false:=rfl
     have h4o:=hW5 (.cells u.av.cells)
     simp -implicitDefEqProofs only[KT,aG,h4o,bY,cB,fB (bY _),eX (a7 _),aA,↓aX,seval,nK]
     exact⟨0,[],_,rfl,by simp,by simp,⟨4,by simp⟩,st.aC c (cE bs (p+1)),hdr _ _ _,p+1,by omega,by omega,rfl,u,Tm.xL u 0⟩
 · simp -implicitDefEqProofs only[aA,seval,nK]
   have hbo:=fA i1
   have h4o:=iA i1 (x:=b4) (by rw[hW4];simp) h54.symm
   rw[hW4] at h4o
   simp -implicitDefEqProofs only[aG,hbo,h4o,eP,aA,seval,nK]
   obtain⟨g5,g6⟩:=lB (o:=.cells [.int .i64 (k),.int .i64 (n),.str (s),bM 4 b ((ts).map Tm.av)]) i1 (show((st.aC b4 (.cells [.int .i64 0,.int .i64 0,.str ⟨#[]⟩,.fslice []])).aC c (cE bs (p+1))) b4≠none by rw[hW4];simp) h54.symm
   refine⟨b,_,_,g5,g6,jJ _,⟨4,eD _⟩,st.aC c (cE bs (p+1)),hdr _ _ _,p+1,by omega,by omega,rfl,.mk (k) (n) (s) (ts),?_⟩
   simp only[gJ,aW,aU,eT,jP,jE,aY]
abbrev aRD:=zi tI_3 (zi zI_3 (zi aZ (zi tI_29 (zi zI_29 (zi fN (zi iT (zi iU (zi jK (zi tI_84 (zi zI_84 (zi kG (zi kH kD))))))))))))
theorem aVK(l:List Cl)(g:FuncId)(dT:List AV)(p:Cl→Bool)(st:aB)(hc:∀x∈l,aD prog g ([bB x]++dT) st (fun r st'=>r=.bool (p x)∧st'=st)) :
 aD prog 215 [.slice (l.map bB),.func g dT] st (fun r st'=>∃j:Int,r=.int .i64 j∧decide (0≤j)=l.any p∧st'=st):=by
 refine wF [] 2 func215 ntmps215 rfl rfl ?_
 simp only[d5,AV.fits,d9,aF]
 intro ⟨hl,_⟩
 simp -implicitDefEqProofs only[aF,aA,seval,aRD]
 refine eH (σ:=Unit) [] [0,1,7] l (fun i _=>(l.drop i).any p=l.any p) (fun i _=>[(8,.int .i64 i)]) (fun _ _=>st) (by decide +kernel) ⟨(),rfl,aN.mk (by simp -implicitDefEqProofs only[aA,↓aX,seval])⟩ (fun i x _ hx hlt bQ hdr hinv=>?_) (fun _ hge hinv=>?_)
 case refine_2=>
  simp -implicitDefEqProofs only[hge,aA,seval]
  rw[j8] at hinv
  exact⟨-1,rfl,by rw[←hinv];try rfl⟩
 rw[hdr,DP] at hinv
 have hw:=bE (n:=(i:Int)+1)
 simp -implicitDefEqProofs only[bQ,bO (av:=bB) fN hx (i8 x),vM,i8,aA,seval,aRD]
 refine(hc x (cJ hx)).to ?_
 simp -implicitDefEqProofs only[aA,seval]
 refine aS (fun h=>?_) (fun h=>?_)
 · simp -implicitDefEqProofs only[aA,seval]
   exact⟨i,rfl,by rw[←hinv,h];simp⟩
 · rw[h,rT] at hinv
   simp -implicitDefEqProofs only[aA,seval]
   exact⟨(),hinv,aN.mk (by simp -implicitDefEqProofs only[hw,aA,seval])⟩
theorem aVA(l:List Cl)(g:FuncId)(dT:List AV)(p:Cl→Bool)(st:aB)(hc:∀x∈l,aD prog g ([bB x]++dT) st (fun r st'=>r=.bool (p x)∧st'=st)) :
 aD prog 140 [.slice (l.map bB),.func g dT] st (fun r st'=>r=.bool (l.any p)∧st'=st):=by
 refine wF [] 2 func140 ntmps140 rfl rfl ?_
 intro _
 simp -implicitDefEqProofs only[aA,seval]
 refine(aVK l g dT p st hc).mono ?_
 rintro _ _ ⟨j,rfl,hj,rfl⟩
 simp -implicitDefEqProofs only[hj,aA,seval]
abbrev WF:=zi tI_4 (zi zI_4 (zi cG (zi tI_31 (zi zI_31 (zi aO (zi bH (zi bJ (zi bZ (zi tI_66 (zi zI_66 (zi bS (zi bT (zi bU (zi bV (zi bR (zi tI_84 (zi zI_84 (zi kG (zi kH kD)))))))))))))))))))
theorem aWA(c:Cl)(st:aB):aD prog 142 [bB c] st (fun r st'=>r=.bool (mG c)∧st'=st):=by
 obtain⟨⟨k,n,s,ts⟩,b⟩:=c
 have hv:=fun st=>Z5 (.mk k n s ts) st
 have hp:=fun st=>Z9 k n s ts st
 simp only[aY] at hv hp
 have hg:=fun st=>Z1 b st
 simp only[fU,mG,VF]
 simp only[nH] at hg
 generalize (Tm.mk k n s ts).valid=v at *
 refine wF [1000000] 1 func142 ntmps142 rfl rfl ?_
 intro _
 simp -implicitDefEqProofs only[aA,seval,WF]
 refine(hv _).to ?_
 cases v with
 | false=>simp -implicitDefEqProofs only[iF,aA,seval]
 | true=>
  simp -implicitDefEqProofs only[jF,fP,aA,seval,WF]
  refine(hp _).to ?_
  cases hpl:rN k s (ts.length:Int) with
  | false=>simp -implicitDefEqProofs only[iF,aA,seval]
  | true=>
   simp -implicitDefEqProofs only[jF,fP,aA,seval,WF]
   refine(hg _).to ?_
   simp -implicitDefEqProofs only[aA,seval]
abbrev a7N:=zi tI_4 (zi zI_4 (zi cG (zi tI_84 (zi zI_84 (zi kG (zi kH kD))))))
theorem aVT(c:Cl)(st:aB):aD prog 141 [bB c] st (fun r st'=>r=.bool (!mG c)∧st'=st):=by
 refine wF [1000000] 1 func141 ntmps141 rfl rfl ?_
 intro _
 simp -implicitDefEqProofs only[L4,vM,i8,aA,seval,a7N]
 refine(aWA c st).to ?_
 simp -implicitDefEqProofs only[aA,seval]
abbrev a7O:=zi tI_3 (zi zI_3 (zi aZ (zi tI_4 (zi zI_4 (zi cG (zi tI_29 (zi zI_29 (zi fN (zi iT (zi iU jK))))))))))
theorem aWE(p:List Cl)(st:aB):aD prog 58 [.slice (p.map bB)] st (fun r st'=>r=.bool (sT p)∧st'=st):=by
 refine wF [1000000] 1 func58 ntmps58 rfl rfl ?_
 simp only[d5,AV.fits,d9,aF]
 intro _
 unfold sT
 simp -implicitDefEqProofs only[aF,aA,seval,a7O]
 refine cS (fun h=>?_) (fun h=>?_)
 · simp only[bL] at h
   rw[show decide (p.length≤20)=true by simp;omega]
   simp -implicitDefEqProofs only[h,aA,seval]
   refine(aVA p _ [] (fun t=> !mG t) st fun x _=>aVT x st).to ?_
   simp -implicitDefEqProofs only[QT,aA,seval]
 · simp only[nM,cP] at h
   rw[show decide (p.length≤20)=false by simp;omega]
   simp -implicitDefEqProofs only[h,aA,seval]
   rfl
abbrev FY:=zi tI_3 (zi zI_3 (zi aZ (zi tI_4 (zi zI_4 (zi cG (zi tI_31 (zi zI_31 (zi aO (zi bH (zi bJ (zi bZ (zi tI_66 (zi zI_66 (zi bS (zi bT (zi bU (zi bV (zi bR (zi tI_84 (zi zI_84 (zi kG (zi kH kD))))))))))))))))))))))
theorem aA3(c:Cl)(st:aB):aD prog 143 [bB c] st (fun r st'=>r=.bool (mG c)∧st'=st):=by
 obtain⟨⟨k,n,s,ts⟩,l⟩:=c
 have hv:=fun st=>RV (.mk k n s ts) st
 have hp:=fun st=>aAQ k n s ts st
 simp only[aY] at hv hp
 simp only[fU,mG,VF]
 generalize (Tm.mk k n s ts).valid=v at *
 refine wF [1000000] 1 func143 ntmps143 rfl rfl ?_
 simp only[d5,AV.fits,d9,aF]
 intro ⟨_,_,_,_,hl,_⟩
 have kT:l.all Tm.goal=true∨l.length>6→(decide ((l.length:Int)≤6)&&v&&rN k s (ts.length:Int))=(v&&rN k s (ts.length:Int)&&(decide (l.length≤6)&&l.all Tm.goal)):=fun h=>by
  by_cases h6:l.length≤6
  · have hg:l.all Tm.goal=true:=h.resolve_right (by omega)
    rw[hg,show decide ((l.length:Int)≤6)=true from g8 (by omega),show decide (l.length≤6)=true from g8 h6]
    simp
  · rw[show decide ((l.length:Int)≤6)=false from gG (by omega),show decide (l.length≤6)=false from gG h6]
    simp
 simp -implicitDefEqProofs only[aA,seval,FY]
 refine eH (σ:=Unit) [1000000] [1] l (fun i _=>i≤7∧(l.take i).all Tm.goal=true) (fun i _=>[(2,.bool false),(3,.int .i64 i)]) (fun _ _=>st) (by decide +kernel) ⟨(),⟨by omega,by simp⟩,aN.mk (by simp -implicitDefEqProofs only[aA,↓aX,seval])⟩ (fun i x _ hx hlt bQ hdr hinv=>?_) (fun _ hge hinv=>?_)
 · obtain⟨i1,i2⟩:=hinv
   have hw:=bE (n:=(i:Int)+1)
   by_cases h7:i≤6
   · have h7':decide ((i:Int)≤6)=true:=g8 (by omega)
     have hat:=bO (av:=Tm.av) aO hx (aK x)
     simp -implicitDefEqProofs only[bQ,bX,jF,aF,h7',hat,a7,aK,aA,seval,FY]
     refine(aA4 x st).to ?_
     simp -implicitDefEqProofs only[aA,seval]
     refine aS (fun h2=>?_) (fun h2=>?_)
     · simp only[iX] at h2
       simp -implicitDefEqProofs only[aA,seval]
       have:l.all Tm.goal=false:=w7 hx h2
       rw[this];simp
     · simp only[mD] at h2
       simp -implicitDefEqProofs only[aA,seval]
       refine⟨(),⟨by omega,?_⟩,aN.mk (by simp -implicitDefEqProofs only[hw,aA,seval])⟩
       rw[fS,hx,DO,i2]
       simp [h2]
   · have h7':decide ((i:Int)≤6)=false:=gG (by omega)
     have h8:decide ((l.length:Int)≤6)=false:=gG (by omega)
     rw[←kT (.inr (by omega)),h8]
     simp -implicitDefEqProofs only[bQ,bX,jF,h8,iF,aF,h7',aA,seval,FY]
 · obtain⟨i1,i2⟩:=hinv
   rw[eN] at i2
   rw[←kT (.inl i2)]
   cases h8:decide ((l.length:Int)≤6) with
   | false=>
    simp -implicitDefEqProofs only[hge,aF,h8,iF,aA,seval,FY]
   | true=>
    simp -implicitDefEqProofs only[hge,jF,aF,h8,fP,aA,seval,FY]
    refine(hv _).to ?_
    cases v with
    | false=>simp -implicitDefEqProofs only[iF,aA,seval]
    | true=>
     simp -implicitDefEqProofs only[jF,fP,aA,seval,FY]
     refine(hp _).to ?_
     simp -implicitDefEqProofs only[aA,seval]
abbrev WG:=zi tI_3 (zi zI_3 (zi aZ (zi tI_4 (zi zI_4 (zi cG (zi tI_29 (zi zI_29 (zi fN (zi iT (zi iU (zi jK (zi tI_84 (zi zI_84 (zi kG (zi kH kD)))))))))))))))
theorem aYI(l:List Cl)(st:aB):aD prog 59 [.slice (l.map bB)] st (fun r st'=>r=.bool (sT l)∧st'=st):=by
 refine wF [1000000] 1 func59 ntmps59 rfl rfl ?_
 simp only[d5,AV.fits,d9,aF]
 intro ⟨hl,_⟩
 simp -implicitDefEqProofs only[aA,seval]
 refine eH (σ:=Unit) [1000000] [0] l (fun i _=>i≤21∧(l.take i).all mG=true) (fun i _=>[(2,.bool false),(3,.int .i64 i)]) (fun _ _=>st) (by decide +kernel) ⟨(),⟨by omega,by simp⟩,aN.mk (by simp -implicitDefEqProofs only[aA,↓aX,seval])⟩ (fun i x _ hx hlt bQ hdr hinv=>?_) (fun _ hge hinv=>?_)
 · obtain⟨i1,i2⟩:=hinv
   have hw:=bE (n:=(i:Int)+1)
   by_cases h7:i≤20
   · have h7':decide ((i:Int)≤20)=true:=g8 (by omega)
     have hat:=bO (av:=bB) fN hx (i8 x)
     simp -implicitDefEqProofs only[bQ,bX,jF,aF,h7',hat,vM,i8,aA,seval,WG]
     refine(aA3 x st).to ?_
     simp -implicitDefEqProofs only[aA,seval]
     refine aS (fun h2=>?_) (fun h2=>?_)
     · simp only[iX] at h2
       simp -implicitDefEqProofs only[aA,seval]
       have:l.all mG=false:=w7 hx h2
       simp only[sT,this,uY]
     · simp only[mD] at h2
       simp -implicitDefEqProofs only[aA,seval]
       refine⟨(),⟨by omega,?_⟩,aN.mk (by simp -implicitDefEqProofs only[hw,aA,seval])⟩
       rw[fS,hx,DO,i2]
       simp [h2]
   · have h7':decide ((i:Int)≤20)=false:=gG (by omega)
     have h8:decide ((l.length:Int)≤20)=false:=gG (by omega)
     have h9:decide (l.length≤20)=false:=gG (by omega)
     simp -implicitDefEqProofs only[bQ,bX,jF,aF,h7',h8,sT,h9,iF,aA,seval,WG]
 · obtain⟨i1,i2⟩:=hinv
   rw[eN] at i2
   simp -implicitDefEqProofs only[hge,aF,aA,seval,WG]
   simp only[sT,i2,DM,AV.bool.injEq,BX]
   omega
end Go.AW
namespace Go.AW

def dW:AV→List Nat
 | .mslice b _ _ _=>[b]
 | _=>[]
def jT(st:aB)(w:Nat)(q:AV)(l:List AV):Prop:=
 (q=.fslice []∧l= [])∨∃b cs,q=.mslice b 0 l.length w∧st b=Option.some (.cells cs)∧cs.take (l.length*w)=l.flatMap AV.cells∧l.length*w≤cs.length
theorem jT.shape{st:aB}{w:Nat}{q:AV}{l:List AV}(h:jT st w q l):q.isAgg=false∧q.width=1∧q.cH=false∧q.cells= [q]∧q.storable=true:=by
 rcases h with ⟨rfl,_⟩ | ⟨b',cs,rfl,_⟩<;>exact⟨rfl,rfl,rfl,rfl,rfl⟩
theorem jT.aV{st st':aB}{w:Nat}{q:AV}{l:List AV}(h:jT st w q l)(hk:∀b∈dW q,st' b=st b):jT st' w q l:=by
 rcases h with h | ⟨b,cs,rfl,hb,h2⟩
 · exact .inl h
 · exact .inr ⟨b,cs,rfl,by rw[hk b (by simp [dW])];exact hb,h2⟩
theorem jT.some{st:aB}{w:Nat}{q:AV}{l:List AV}(h:jT st w q l):∀b∈dW q,∃cs,st b=Option.some (.cells cs):=by
 intro b hb
 rcases h with ⟨rfl,_⟩ | ⟨b',cs,rfl,hb',_⟩
 · simp [dW] at hb
 · simp only[dW,c8,dX,eC] at hb;subst hb;exact⟨cs,hb'⟩
theorem jT.len{P:Program}{t e:TypeId}{st:aB}{w:Nat}{q:AV}{l:List AV}(h:jT st w q l)(hu:P.underlying t=Option.some (.slice e)):m8 P t q=Option.some (.int .i64 (l.length:Int)):=by
 rcases h with ⟨rfl,rfl⟩ | ⟨b,cs,rfl,_⟩<;>simp only[m8,hu,bA]
theorem jT.append{P:Program}{t:TypeId}{ag:Bool}{bytes w:Nat}{zs:List AV}{st:aB}{q:AV}{l:List AV}{x:AV}{K:AV→aB→Prop}(hI:eI P t=Option.some (ag,w))(hB:eB P t=Option.some bytes)(hZ:eZ P t=Option.some zs)(hz:zs.length=w)(hb8:bytes≤4096)
 (h:jT st w q l) (hx:x.width=w) (hxs:x.cells.all AV.storable=true) (hl:l.length≤1073741824)
 (hK:∀q' st',jT st' w q' (l++ [x])→(∀y,y∉dW q→y∉dW q'→st' y=st y)→(∀y∈dW q',y∈dW q∨st y=none)→K q' st'):kY P t st q (.fslice [x]) K:=by
 have fD:w8 w [x]:=by intro e he;simp only[c8,dX,eC] at he;subst he;exact⟨hx,hxs⟩
 have H9:(l.length+1)*bytes≤140737488355328:=by
  have:=Nat.mul_le_mul (show l.length+1≤1073741825 by omega) hb8
  omega
 have hxc:x.cells.length=w:=by rw[vL,hx]
 unfold kY
 simp only[hI,hB,hZ,BL]
 refine⟨hz,fD,?_⟩
 rcases h with ⟨rfl,rfl⟩ | ⟨b,cs,rfl,hb,hcs,hcl⟩
 · simp only[bA,aQ,iJ] at H9 ⊢
   refine⟨by omega,by omega,by simp,fun h=>by simp at h,fun _ b hb=>?_⟩
   refine hK _ _ (.inr ⟨b,x.cells,rfl,by rw[aB.aP];simp,?_,?_⟩) (fun y _ hy=>?_) (fun y hy=>?_)
   · simp only[eS,aQ,bA,iJ,Nat.one_mul,qS,List.flatMap_nil,gI]
     rw[←hxc,eN]
   · simp only[eS,aQ,bA,iJ,Nat.one_mul]
     omega
   · simp only[dW,c8,dX,eC] at hy
     rw[aB.aJ _ _ hy]
   · simp only[dW,c8,dX,eC] at hy
     subst hy;exact .inr hb
 · simp only[aQ,bA,iJ,hb]
   have nG:cs.take (l.length*w)++ [x].flatMap AV.cells=(l++ [x]).flatMap AV.cells:=by rw[hcs];simp
   have hlen:((l++ [x]).flatMap AV.cells).length=(l++ [x]).length*w:=by
    rw[←nG,dL,dQ,kN hcl]
    simp only[qS,List.flatMap_nil,gI,hxc,dL,aQ,bA]
    rw[wT];omega
   refine⟨trivial,H9,by omega,hcl,?_,fun b' hb'=>?_⟩
   · rw[nG]
     refine hK _ _ (.inr ⟨b,_,by simp,aB.aP _ _ _,by rw[lT (by rw[hlen];exact dB _)],by rw[hlen];exact dB _⟩) (fun y hy _=>?_) (fun y hy=>.inl hy)
     simp only[dW,c8,dX,eC] at hy
     rw[aB.aJ _ _ hy]
   · rw[nG]
     refine hK _ _ (.inr ⟨b',_,by simp,aB.aP _ _ _,by rw[lT (by rw[hlen];exact dB _)],by rw[hlen];exact dB _⟩) (fun y hy hy'=>?_) (fun y hy=>?_)
     · simp only[dW,c8,dX,eC] at hy hy'
       rw[aB.aJ _ _ hy']
       simp [aB.erase,hy]
     · simp only[dW,c8,dX,eC] at hy
       subst hy;exact .inr hb'
def zB(k:Nat):AV→AV
 | .mslice b o _ w=>.mslice b o k w
 | a=>a
theorem jT.take{st:aB}{w:Nat}{q:AV}{l:List AV}(h:jT st w q l){k:Nat}(hk:k≤l.length)(hw:∀e∈l,e.width=w):jT st w (zB k q) (l.take k):=by
 rcases h with ⟨rfl,rfl⟩ | ⟨b,cs,rfl,hb,hcs,hcl⟩
 · exact .inl ⟨rfl,by simp⟩
 · have hlk:(l.take k).length=k:=by rw[dQ];omega
   have h1:k*w≤l.length*w:=rZ w hk
   refine .inr ⟨b,cs,by rw[hlk];try rfl,hb,?_,by rw[hlk];omega⟩
   rw[hlk]
   have h2:cs.take (k*w)=(cs.take (l.length*w)).take (k*w):=by rw[wS,kN h1]
   rw[h2,hcs]
   have h3:l.flatMap AV.cells=(l.take k).flatMap AV.cells++(l.drop k).flatMap AV.cells:=by rw[←yR,rX]
   have h4:((l.take k).flatMap AV.cells).length=k*w:=by rw[p6 (n:=w) (es:=l.take k) (fun e he=>hw e (lS he)),hlk]
   rw[h3,GQ h4]
theorem FM(k:Nat)(q:AV):dW (zB k q)=dW q:=by cases q<;>rfl
theorem jT.at{st:aB}{w:Nat}{q:AV}{l:List AV}(h:jT st w q l)(hw:∀e∈l,e.width=w){i:Nat}{e:AV}(he:l[i]?=.some e) :
 ∃b cs,q=.mslice b 0 l.length w∧st b=.some (.cells cs)∧i*w+w≤cs.length∧(cs.drop (i*w)).take w=e.cells:=by
 obtain⟨hi,hei⟩:=fR.1 he
 rcases h with ⟨rfl,rfl⟩ | ⟨b,cs,rfl,hb,hcs,hcl⟩
 · simp at he
 · have h1:(i+1)*w≤l.length*w:=rZ w hi
   rw[wT,Nat.one_mul] at h1
   refine⟨b,cs,rfl,hb,by omega,?_⟩
   have h2:l=l.take i++e::l.drop (i+1):=by rw[←hei,←pQ hi,rX]
   have hA:((l.take i).flatMap AV.cells).length=i*w:=by
    rw[p6 (n:=w) (es:=l.take i) (fun e he=>hw e (lS he)),dQ,kN (by omega)]
   have hE:e.cells.length=w:=by rw[vL];exact hw e (cJ he)
   have h3:(cs.drop (i*w)).take w=((cs.take (l.length*w)).drop (i*w)).take w:=by
    rw[List.drop_take,wS,kN (by omega)]
   rw[h3,hcs,h2]
   simp only[yR,qS]
   rw[List.drop_left' hA,GQ hE]
theorem dC.fz{h:bP}{st:aB}{b:Nat}{es:List AV}(S:cX h st)(hb:st b=some (.cells (es.flatMap AV.cells)))(hj:∀e∈es,e.cH=false)(hE:iR es):∀ {us:List AV} {vs:List Value},dC h st us vs→dC h (st.erase b) (lZ b es us) vs
 | [],vs,x=>by simp only[dC] at x;simp [lZ,dC,x]
 | a::us,vs,x=>by
  simp only[dC] at x
  obtain⟨v,r,rfl,x1,x2⟩:=x
  simp only[lZ,dC]
  exact⟨v,r,rfl,x1.fz S hb hj hE,dC.fz S hb hj hE x2⟩
theorem cC.unerase{h h':bP}{st st':aB}{b:Nat}(x:cC h (st.erase b) h' st'):cC h st h' st':=
 ⟨x.size,fun c hc e=>x.aV c hc (aB.aZT st e),x.shape⟩
theorem aD.a0W{P:Program}{g:FuncId}{args:List AV}{st:aB}{Q:AV→aB→Prop}(b:Nat)(es:List AV)(hb:st b=some (.cells (es.flatMap AV.cells)))(hj:∀e∈es,e.cH=false)(hE:iR es)(x:aD P g (lZ b es args) (st.erase b) Q):aD P g args st Q:=
 ⟨x.1,fun w vs S V=>(x.2 w vs ((jZ st b).JL S) (V.fz S hb hj hE)).mono fun _ _ ⟨v,r,st',e,a,b',c,d,q⟩=>⟨v,r,st',e,a,b',c.unerase,d,q⟩⟩
def Lit(st:aB)(w:Nat)(l:List AV)(q:AV)(s:aB):Prop:=(q=.fslice l∧s=st)∨∃b,st b=none∧q=.mslice b 0 l.length w∧s=st.aC b (.cells (l.flatMap AV.cells))
theorem aUE{P:Program}{t:TypeId}{ag:Bool}{w bytes:Nat}{zs:List AV}{st:aB}{es xs:List AV}{x:AV}{K:AV→aB→Prop}(hI:eI P t=some (ag,w))(hB:eB P t=some bytes)(hZ:eZ P t=some zs)(hz:zs.length=w)(hx:x=.slice xs∨x=.fslice xs)(hes:∀e∈es,e.width=w)(fD:w8 w xs)(hl:(es.length+xs.length)*bytes≤140737488355328)(hl2:es.length+xs.length≤9223372036854775807)
 (hK:∀q s,Lit st w (es++xs) q s→K q s):kY P t st (.fslice es) x K:=by
 unfold kY
 have he:BL x=some xs:=by rcases hx with rfl | rfl<;>rfl
 simp only[hI,hB,hZ,he]
 refine⟨hz,fD,hl,hl2,hes,fun h=>?_,fun _ b hb=>?_⟩
 · subst h
   exact hK _ _ (.inl ⟨by rw[gI],rfl⟩)
 · exact hK _ _ (.inr ⟨b,hb,by rw[dL],rfl⟩)
theorem Lit.call{P:Program}{g:FuncId}{st s:aB}{w:Nat}{l:List AV}{q:AV}{post:List AV}{Q:AV→aB→Prop}(h:Lit st w l q s)(hj:∀e∈l,e.cH=false)(hw:∀e∈l,e.width=w)(hp:∀b,lZ b l post=post)(x:aD P g (.slice l::post) st Q):aD P g (q::post) s Q:=by
 rcases h with ⟨rfl,rfl⟩ | ⟨b,hb,rfl,rfl⟩
 · refine aD.args x fun hp vs S V=>?_
   simp only[dC] at V ⊢
   obtain⟨v,r,rfl,V1,V2⟩:=V
   exact⟨v,r,rfl,V1.H5,V2⟩
 · refine aD.a0W b l (aB.aP _ _ _) hj ⟨w,hw⟩ ?_
   rw[aB.vR st b _ hb]
   have:lZ b l (.mslice b 0 l.length w::post)=.slice l::post:=by
    show(AV.mslice b 0 l.length w).fz b l::lZ b l post=_
    rw[hp]
    simp [AV.fz]
   rw[this]
   exact x
end Go.AW
namespace Go.AW
open Go.Proofs.Tryz
def nv(i:Nat):AV:=.int .i64 (i:Int)
def eO:RG→AV
 | ⟨.mk k n s ts,aV⟩=>.agg [.int .i64 k,.int .i64 n,.str s,.slice (ts.map Tm.av),.int .i64 (aV:Int)]
theorem pM(k n:Int)(s:ByteArray)(ts:List Tm)(aV:Nat):eO ⟨.mk k n s ts,aV⟩=.agg [.int .i64 k,.int .i64 n,.str s,.slice (ts.map Tm.av),.int .i64 (aV:Int)]:=rfl
theorem a6F(g:RG):eO g=.agg (g.t.av.cells++ [.int .i64 (g.aV:Int)]):=by obtain⟨⟨k,n,s,ts⟩,aV⟩:=g;rw[aY];try rfl
theorem AJ(g:RG):(eO g).width=5:=by obtain⟨⟨k,n,s,ts⟩,aV⟩:=g;rfl
theorem a6G(g:RG):(eO g).cells.all AV.storable=true:=by obtain⟨⟨k,n,s,ts⟩,aV⟩:=g;rfl
theorem a6E(g:RG):(eO g).cH=false:=by obtain⟨⟨k,n,s,ts⟩,aV⟩:=g;rfl
def gO:RC→AV
 | ⟨.mk k n s ts,rest,left,σ,N⟩=>.agg [.int .i64 k,.int .i64 n,.str s,.slice (ts.map Tm.av),.slice (rest.map eO),.slice (left.map nv),.slice (cY N σ)]
theorem N2(g:RC):(gO g).width=7:=by obtain⟨⟨k,n,s,ts⟩,_,_,_,_⟩:=g;rfl
theorem a5Y(g:RC):(gO g).cells.all AV.storable=true:=by obtain⟨⟨k,n,s,ts⟩,_,_,_,_⟩:=g;rfl
theorem a5X(g:RC):(gO g).cH=false:=by obtain⟨⟨k,n,s,ts⟩,_,_,_,_⟩:=g;rfl
def d6(s:RS):AV:=.agg [.slice (s.goals.map eO),.slice (cY s.N s.σ),.slice (s.chs.map gO)]
abbrev WK:=zi tI_3 (zi zI_3 (zi aZ (zi tI_4 (zi zI_4 (zi cG (zi tI_31 (zi zI_31 (zi aO (zi bH (zi bJ (zi bZ (zi tI_66 (zi zI_66 (zi bS (zi bT (zi bU (zi bV bR)))))))))))))))))
theorem aAT:∀(t:Tm) (d:Nat) (st:aB),d≤1000→t.small=true→aD prog 303 [t.av,.int .i64 (d:Int)] st (fun r st'=>r=.bool (t.flat d)∧st'=st)
 | .mk k n s ts,d,st,hd,hsm=>by
  obtain⟨hlen,qE⟩:=Tm.qO hsm
  have IH:=fun(x:Tm) (hx:x∈ts) d st h=>aAT x d st h (qE x hx)
  simp only[aY]
  refine wF [1000000] 2 func303 ntmps303 rfl rfl ?_
  intro _
  simp -implicitDefEqProofs only[aA,seval,WK]
  refine aS (fun h=>?_) (fun h=>?_)
  · simp only[bL] at h
    obtain rfl:d=0:=by omega
    simp -implicitDefEqProofs only[aA,↓aX,seval]
    rw[Tm.H3]
  simp only[cP] at h
  obtain⟨e,rfl⟩:∃e,d=e+1:=⟨d - 1,by omega⟩
  rw[Tm.xN]
  have hw1:IntKind.i64.wrap ((e:Int)+1 - 1)=(e:Int):=by rw[wrap64 (by omega) (by omega)];omega
  simp -implicitDefEqProofs only[aA,seval]
  refine eH (σ:=Unit) [1000000] [1,2] ts (fun i _=>((ts.drop i).all fun t=>t.flat e)=(ts.all fun t=>t.flat e)) (fun i _=>[(5,.int .i64 i)]) (fun _ _=>st) (by decide +kernel) ⟨(),rfl,aN.mk (by simp -implicitDefEqProofs only[aA,↓aX,seval])⟩ (fun i x _ hx hlt bQ hdr hinv=>?_) (fun _ hge hinv=>?_)
  case refine_2=>
   simp -implicitDefEqProofs only[hge,aF,aA,seval,WK]
   rw[←hinv,j8]
   try rfl
  have hw:=bE (n:=(i:Int)+1)
  rw[hdr,lE] at hinv
  simp -implicitDefEqProofs only[bQ,aF,bO (av:=Tm.av) aO hx (aK x),a7,aK,hw1,aA,seval,WK]
  refine(IH x (cJ hx) e _ (by omega)).to ?_
  simp -implicitDefEqProofs only[aA,seval]
  refine aS (fun h2=>?_) (fun h2=>?_)
  · simp -implicitDefEqProofs only[aA,seval]
    simp only[iX] at h2
    rw[←hinv,h2]
    try rfl
  · simp only[mD] at h2
    rw[h2,fP] at hinv
    simp -implicitDefEqProofs only[aA,seval]
    exact⟨(),hinv,aN.mk (by simp -implicitDefEqProofs only[hw,aA,seval])⟩
termination_by t=>SizeOf.sizeOf t
decreasing_by have:=List.sizeOf_lt_of_mem hx;simp only[Tm.mk.sizeOf_spec];omega
abbrev JS:=zi tI_3 (zi zI_3 (zi aZ (zi tI_4 (zi zI_4 (zi cG (zi tI_31 (zi zI_31 (zi aO (zi bH (zi bJ (zi bZ (zi tI_66 (zi zI_66 (zi bS (zi bT (zi bU (zi bV bR)))))))))))))))))
theorem RN{N:Nat}{σ:Sub}(hg:cT σ)(ho:cW (bF N) σ)(t:Tm)(ht:bF N t)(st:aB) :
 aD prog 238 [t.av,.slice (cY N σ)] st (fun r st'=>st'=st∧∃x:Tm,r=.tup [x.av,.bool (eQ (t.aM (rs σ)))]∧(eQ (t.aM (rs σ))=true→x=t.aM (rs σ))):=by
 obtain⟨rk,B,G⟩:=hg.rs
 have TO:=fun st=>ZS G ho 120 t st (dB _) ht
 have hV:=G.U4 ho.mN ht.1
 refine aD.nB (aD.soft ?_)
 refine wF [1000000] 2 func238 ntmps238 rfl rfl ?_
 intro _
 simp -implicitDefEqProofs only[a7,aK,cM,aA,seval,JS]
 intro b4 h4
 refine(TO _).mono ?_
 rintro _ _ ⟨rfl,x,left,rfl,h1,h2⟩
 simp -implicitDefEqProofs only[aK,cB,cM,aA,↓aX,seval,JS]
 refine wP [(1,1),(2,1),(3,1),(4,2),(0,1),(5,0),(6,1),(7,0),(8,1)] [1,2,3,4,0,6,8] mixed ?_
 simp -implicitDefEqProofs only[aA,seval]
 refine cS (fun h=>?_) (fun h=>?_)
 · have h3:0≤left:=by simpa using h
   have h4:(t.aM (rs σ)).nodes≤120:=DN fun h5=>by rw[aE h5] at h2;omega
   rw[aH h4] at h2
   obtain⟨rfl,_⟩:=h2
   have h5:eQ (t.aM (rs σ))=(t.aM (rs σ)).flat 30:=by unfold eQ;simp [h4]
   simp -implicitDefEqProofs only[h,a7,aK,aA,seval,JS]
   refine(aAT _ 30 _ (by omega) hV.small).to ?_
   simp -implicitDefEqProofs only[aG,cB,cM,bY,aA,seval,JS]
   refine⟨st,(aL.refl _).aC ‹_›,rfl,_,by simp only[eJ,uP,Tm.soft,aW,aU];rw[h5],fun _=>rfl⟩
 · have hx0:=trivial
   have h3:left<0:=by simpa using h
   have h4:¬(t.aM (rs σ)).nodes≤120:=fun h5=>by rw[aH h5] at h2;omega
   have h5:eQ (t.aM (rs σ))=false:=by unfold eQ;simp [h4]
   simp -implicitDefEqProofs only[h,aG,a7,aK,cB,cM,bY,fB (bY x),eX (a7 x),aA,seval,JS]
   refine⟨st,(aL.refl _).aC ‹_›,rfl,x,by simp only[eJ,uP,Tm.soft,aW,aU];rw[h5],fun h6=>?_⟩
   rw[h5] at h6;cases h6
theorem a0S(c:Cl):H4 c=(cD (c.1::c.2) []).foldl (fun n v=>if n≤v then v+1 else n) 0:=rfl
abbrev OJ:=zi tI_3 (zi zI_3 (zi aZ (zi tI_31 (zi zI_31 (zi aO (zi bH (zi bJ (zi bZ (zi tI_46 (zi zI_46 (zi dK (zi fM (zi fJ (zi fX (zi tI_66 (zi zI_66 (zi bS (zi bT (zi bU (zi bV (zi bR (zi tI_84 (zi zI_84 (zi kG (zi kH kD)))))))))))))))))))))))))
theorem aXR(c:Cl)(hc:fL c)(h6:c.2.length≤6)(st:aB):aD prog 305 [bB c] st (fun r st'=>r=.int .i64 (nF c:Int)∧st'=st):=by
 have hvr:=fun v=>hc.vars (v:=v)
 have hok:=hc.FJ
 have hfr:(nF c:Int)=H4 c:=by
  have:=(aM5 (cD (c.1::c.2) []) 0).1
  unfold nF H4
  omega
 rw[hfr,a0S]
 have hnd:aR Tm.nodes (c.1::c.2)≤1099511627776:=by
  have:∀l:List Tm,(∀t∈l,bF 26 t)→aR Tm.nodes l≤l.length*120:=by
   intro l
   induction l with
   | nil=>intro _;simp [aR]
   | cons x l ih=>intro h;simp only[aR,aQ];have:=ih fun y hy=>h y (by simp [hy]);have:=(h x (by simp)).2;omega
  have:=this _ hok
  simp only[aQ] at this
  omega
 have hvl:=A2 (c.1::c.2) []
 obtain⟨⟨k,n,s,ts⟩,bd⟩:=c
 simp only at h6 hnd hvl hvr hok
 rw[fU]
 refine aD.done ?_
 refine wF [1000000] 1 func305 ntmps305 rfl rfl ?_
 intro _
 simp -implicitDefEqProofs only[aA,seval,OJ]
 refine aUE aO bH bJ rfl (.inl rfl) (by intro e he;simp only[c8,dX,eC] at he;subst he;rfl) (fun e he=>by simp only[cU] at he;obtain⟨t,_,rfl⟩:=he;exact⟨aK _,cB _⟩) (by simp only[aQ,bA,aF];omega) (by simp only[aQ,bA,aF];omega) (fun q s2 hq=>?_)
 rw[←aY] at hq
 rw[show[(Tm.mk k n s ts).av]++bd.map Tm.av=((Tm.mk k n s ts)::bd).map Tm.av from rfl] at hq
 simp -implicitDefEqProofs only[aA,seval]
 refine Lit.call hq (jJ _) (eD _) (fun _=>rfl) ?_
 refine(aAV _ _ (fun t ht=>Tm.vP t (hok t ht).1.2.1) hnd).to ?_
 generalize cD ((Tm.mk k n s ts)::bd) []=vs at *
 simp only[bA] at hvl
 simp -implicitDefEqProofs only[aA,seval]
 refine eH (σ:=Int) [1000000] [2,3] vs (fun i n=>(vs.drop i).foldl (fun n v=>if n≤v then v+1 else n) n=vs.foldl (fun n v=>if n≤v then v+1 else n) 0) (fun i n=>[(4,.int .i64 n),(5,.int .i64 i)]) (fun _ _=>st) (by decide +kernel) ⟨0,rfl,aN.mk (by simp -implicitDefEqProofs only[aA,↓aX,seval])⟩ (fun i x n hx hlt bQ hdr hinv=>?_) (fun n hge hinv=>?_)
 case refine_2=>
  rw[j8] at hinv
  simp -implicitDefEqProofs only[aF,hge,aA,seval,OJ]
  refine⟨?_,aL.refl _⟩
  rw[←hinv]
  try rfl
 rw[hdr,BD] at hinv
 have hw:=bE (n:=(i:Int)+1)
 obtain⟨t,ht,hv⟩:=(hvr x).1 (cJ hx)
 have bBK:=(hok t ht).1.2.2 x hv
 have hw2:=bE (n:=x+1)
 have hat:dM prog 46 (.slice (vs.map iv)) (.int .i64 (i:Int))=some (.pptr (.int .i64 x)):=bO (av:=iv) dK hx rfl
 simp -implicitDefEqProofs only[aF,bQ,hat,aA,seval,OJ]
 refine aS (fun h=>?_) (fun h=>?_)
 · rw[aH (by simpa using h)] at hinv
   simp -implicitDefEqProofs only[hat,hw2,hw,aA,seval,OJ]
   exact⟨x+1,hinv,aN.mk (by simp -implicitDefEqProofs only[aA,seval])⟩
 · rw[aE (by simpa using h)] at hinv
   simp -implicitDefEqProofs only[hw,aA,seval]
   exact⟨n,hinv,aN.mk (by simp -implicitDefEqProofs only[aA,seval])⟩
theorem aQL{M:Int}(m:Nat)(hm:M+m≤1073741824):∀t:Tm,cL M t→t.sh (m:Int)=cZ m t:=by
 intro t
 induction t using Tm.ind with
 | h k n s ts ih=>
  intro h
  rw[Tm.VW]
  by_cases hk:k=1
  · subst hk
    obtain⟨h0,h1,rfl,rfl⟩:=h.var
    unfold cZ
    rw[aH rfl,AI _ (t:=.mk 1 n ⟨#[]⟩ []) rfl,wrap64 (by omega) (by omega)]
    try rfl
  · obtain⟨_,h2⟩:=h.own hk
    unfold cZ at ih ⊢
    rw[aE hk,wE _ hk]
    congr 1
    exact mV fun x hx=>ih x hx (h2 x hx)
abbrev OK:=zi tI_3 (zi zI_3 (zi aZ (zi tI_31 (zi zI_31 (zi aO (zi bH (zi bJ (zi bZ (zi tI_66 (zi zI_66 (zi bS (zi bT (zi bU (zi bV (zi bR (zi tI_163 (zi zI_163 (zi sH (zi zH (zi zL (zi F9 (zi tI_286 (zi zI_286 (zi SS (zi ST Q0)))))))))))))))))))))))))
theorem aAU(bd:List Tm)(N aV:Nat)(rest:List RG)(hb:∀t∈bd,bF 26 t)(h6:bd.length≤6)(hN:N≤1048576)(hr:rest.length≤1048576)(st:aB) :
 aD prog 237 [.slice (bd.map Tm.av),.int .i64 (N:Int),.int .i64 (aV:Int),.slice (rest.map eO)] st (fun r st'=>r=.slice ((bd.map (fun t=>(⟨cZ N t,aV⟩:RG))++rest).map eO)∧st'=st):=by
 refine aD.sF (aD.fin ?_)
 refine wF [1000000] 4 func237 ntmps237 rfl rfl ?_
 intro _
 simp -implicitDefEqProofs only[aA,seval,OK]
 refine eH (σ:=Nat) [1000000] [0,1,2,3,8] bd (fun i b=>((bd.take i).map (fun t=>(⟨cZ N t,aV⟩:RG))).map eO≠[]→st b=none) (fun i b=>[(9,bM 5 b (((bd.take i).map (fun t=>(⟨cZ N t,aV⟩:RG))).map eO)),(10,.int .i64 i)]) (fun i b=>a8 st b (((bd.take i).map (fun t=>(⟨cZ N t,aV⟩:RG))).map eO)) (by decide +kernel) ⟨0,fun h=>absurd rfl h,aN.mk (by simp -implicitDefEqProofs only[j9,aU,kB,aA,↓aX,seval])⟩ (fun i x b hx hlt bQ hdr hinv=>?_) (fun b hge hinv=>?_)
 case refine_1=>
  have hw:=bE (n:=(i:Int)+1)
  have dA:(((bd.take i).map (fun t=>(⟨cZ N t,aV⟩:RG))).map eO).length=i:=by simp only[aF,dQ];omega
  have htk:(((bd.take i).map (fun t=>(⟨cZ N t,aV⟩:RG))).map eO)++ [eO ⟨cZ N x,aV⟩]=(((bd.take (i+1)).map (fun t=>(⟨cZ N t,aV⟩:RG))).map eO):=by rw[fS,hx];simp
  have hxo:=hb x (cJ hx)
  have hsh:=aQL N (by omega) x hxo.1
  have hcs:=RH (N:Int) x
  rw[hsh] at hcs
  have hgo:eO ⟨cZ N x,aV⟩=.agg ((cZ N x).av.cells++ [.int .i64 (aV:Int)]):=a6F _
  simp -implicitDefEqProofs only[bQ,aF,bO (av:=Tm.av) aO hx (aK x),a7,aK,aA,seval,OK]
  refine(hcs _ hxo.1.small).to ?_
  generalize cZ N x=y at *
  obtain⟨yk,yn,ys,yt⟩:=y
  simp only[aY,pM] at htk hgo ⊢
  simp -implicitDefEqProofs only[aA,seval,OK]
  refine fG sH zH zL rfl rfl (gA rfl rfl) (by intro e he;simp only[cU] at he;obtain⟨t,_,rfl⟩:=he;exact AJ t) hinv (by simp only[dA,aQ,bA];omega) (by simp only[dA,aQ,bA];omega) (fun b' hb'=>?_)
  rw[htk] at hb' ⊢
  simp -implicitDefEqProofs only[hw,aA,seval]
  exact⟨b',hb',aN.mk (by simp -implicitDefEqProofs only[aA,seval])⟩
 rw[eN] at hinv ⊢
 simp -implicitDefEqProofs only[aF,hge,aA,seval,OK]
 refine fG (xs:=rest.map eO) sH zH zL rfl rfl (by intro e he;simp only[cU] at he;obtain⟨t,_,rfl⟩:=he;exact⟨AJ t,a6G t⟩) (by intro e he;simp only[cU] at he;obtain⟨t,_,rfl⟩:=he;exact AJ t) hinv (by simp only[aF];omega) (by simp only[aF];omega) (fun b' hb'=>?_)
 rw[←oC] at hb' ⊢
 simp -implicitDefEqProofs only[aA,seval]
 exact⟨b',_,st,rfl,hb',by intro e he;simp only[cU] at he;obtain⟨t,_,rfl⟩:=he;exact a6E t,⟨5,by intro e he;simp only[cU] at he;obtain⟨t,_,rfl⟩:=he;exact AJ t⟩,by rw[jE],aL.refl _⟩
def rB(p:List Cl)(t:Tm)(i:Nat):Bool:=match p[i]? with
 | some c=>ID c t
 | none=>false
theorem B5(p:List Cl)(t:Tm):dG p t=(List.range p.length).filter (rB p t):=rfl
theorem aM4(p:List Cl)(t:Tm)(i:Nat):(List.range (i+1)).filter (rB p t)=(List.range i).filter (rB p t)++(if rB p t i=true then[i] else[]):=by
 rw[List.range_succ,GI]
 congr 1
 by_cases h:rB p t i=true<;>simp [h]
theorem B6(p:List Cl)(t:Tm)(i:Nat):((List.range i).filter (rB p t)).length≤i:=by
 have:=KS (rB p t) (List.range i)
 rw[KT] at this
 exact this
theorem NR(l:List Nat):∀e∈l.map nv,e.width=1:=by intro e h;simp only[cU] at h;obtain⟨t,_,rfl⟩:=h;rfl
abbrev F1:=zi tI_3 (zi zI_3 (zi aZ (zi tI_9 (zi zI_9 (zi cF (zi tI_29 (zi zI_29 (zi fN (zi iT (zi iU (zi jK (zi tI_31 (zi zI_31 (zi aO (zi bH (zi bJ (zi bZ (zi tI_46 (zi zI_46 (zi dK (zi fM (zi fJ (zi fX (zi tI_66 (zi zI_66 (zi bS (zi bT (zi bU (zi bV (zi bR (zi tI_84 (zi zI_84 (zi kG (zi kH kD))))))))))))))))))))))))))))))))))
theorem RL(p:List Cl)(t:Tm)(hp:p.length≤1048576)(st:aB):aD prog 198 [.slice (p.map bB),t.av] st (fun r st'=>r=.slice ((dG p t).map nv)∧st'=st):=by
 rw[B5]
 refine aD.done ?_
 obtain⟨tk,tn,ts',tts⟩:=t
 simp only[aY]
 refine wF [1000000] 2 func198 ntmps198 rfl rfl ?_
 intro _
 simp -implicitDefEqProofs only[aA,seval,F1]
 refine tE (σ:=Unit) [1000000] [0,3,4] p 1 5 (fun i _=>((List.range i).filter (rB p (.mk tk tn ts' tts))).map nv) (fun _ _=>True) (fun i _=>[(6,.int .i64 i)]) (fun _ _=>st) (fun i _ _ e he=>by simp only[cU] at he;obtain⟨t,_,rfl⟩:=he;exact⟨rfl,rfl⟩) (by decide +kernel) ⟨(),0,trivial,fun h=>absurd rfl h,aN.mk (by simp -implicitDefEqProofs only[kB,List.range_zero,KN,aU,aA,↓aX,seval])⟩ (fun i x s b hx hlt bQ hdr hinv hb=>?_) (fun s b hge hinv=>?_)
 case refine_2=>
  simp -implicitDefEqProofs only[hge,eT,jB,o7,B4,mI,aF,aA,seval,F1]
  exact⟨rfl,aL.refl _⟩
 have hw:=bE (n:=(i:Int)+1)
 have hst:=aM4 p (.mk tk tn ts' tts) i
 have hln:=B6 p (.mk tk tn ts' tts) i
 have hat:=bO (av:=bB) (P:=prog) fN hx (i8 x)
 obtain⟨⟨k,n,s',ts⟩,bd⟩:=x
 rw[fU] at hat
 have hP:rB p (.mk tk tn ts' tts) i=(decide (s'=ts')&&decide ((ts.length:Int)=(tts.length:Int))):=by unfold rB;rw[hx];try rfl
 rw[hP] at hst
 simp -implicitDefEqProofs only[bQ,aF,aA,seval,F1]
 refine wP [(0,1),(1,1),(2,1),(3,1),(4,1),(6,1),(5,2),(7,2),(8,1),(9,1),(10,1),(11,1),(12,1),(13,1),(14,1),(17,1),(15,2),(16,1),(18,2),(19,1),(20,1),(21,1)] [0,1,2,3,4,6,5,7,8,9,10,11,12,13,14,17,15,16,18,19,20,21] mixed ?_
 simp -implicitDefEqProofs only[hat,aA,seval,F1]
 refine cS (fun h=>?_) (fun h=>?_)
 case refine_2=>
  have h':(decide (s'=ts')&&decide ((ts.length:Int)=(tts.length:Int)))=false:=by simp at h;simp [h]
  rw[h',aE (by simp),gI] at hst
  rw[←hst] at hb ⊢
  simp -implicitDefEqProofs only[h,hw,aA,seval]
  exact⟨(),b,hb,aN.mk (by simp -implicitDefEqProofs only[aA,seval])⟩
 have h1:decide (s'=ts')=true:=by simpa using h
 rw[h1,fP] at hst
 simp -implicitDefEqProofs only[h,aF,hat,aA,seval,F1]
 refine aS (fun h2=>?_) (fun h2=>?_)
 · rw[aH h2] at hst
   simp -implicitDefEqProofs only[aA,seval,F1]
   refine fG dK fM fJ rfl rfl (gA rfl rfl) (NR _) hb (by simp only[aF,aQ,bA];omega) (by simp only[aF,aQ,bA];omega) (fun b' hb'=>?_)
   rw[show ∀l:List Nat,l.map nv++ [AV.int .i64 (i:Int)]=(l++ [i]).map nv from fun l=>by simp [nv],←hst] at hb' ⊢
   simp -implicitDefEqProofs only[hw,aA,seval]
   exact⟨(),b',hb',aN.mk (by simp -implicitDefEqProofs only[aA,seval])⟩
 · rw[aE (by simp [h2]),gI] at hst
   rw[←hst] at hb ⊢
   simp -implicitDefEqProofs only[hw,aA,seval]
   exact⟨(),b,hb,aN.mk (by simp -implicitDefEqProofs only[aA,seval])⟩
theorem UK{n:Int}:∀ {l:List Int},l.Nodup→∀ {i:Nat},l[i]?=some n→∀j:Int,fO n l j=j+i
 | [],_,i,h,j=>by simp at h
 | x::l,hd,0,h,j=>by
  simp only[KP,Option.some.injEq] at h
  subst h
  simp [fO]
 | x::l,hd,i+1,h,j=>by
  rw[GN] at hd
  rw[KO] at h
  have hm:=cJ h
  simp only[fO]
  rw[aE (fun e:n=x=>hd.1 (e▸hm)),UK hd.2 h (j+1)]
  omega
abbrev nZ:=zi tI_3 (zi zI_3 (zi aZ (zi tI_9 (zi zI_9 (zi cF (zi tI_31 (zi zI_31 (zi aO (zi bH (zi bJ (zi bZ (zi tI_46 (zi zI_46 (zi dK (zi fM (zi fJ (zi fX (zi tI_66 (zi zI_66 (zi bS (zi bT (zi bU (zi bV bR)))))))))))))))))))))))
theorem aAF(vars:List Int)(hnd:vars.Nodup)(hvl:vars.length≤1048576):∀(t:Tm) (st:aB),t.small=true→t.cv=true→(∀v∈t.vl,v∈vars)→aD prog 304 [t.av,.slice (vars.map iv)] st (fun r st'=>r=(t.aM fun v=>vr (fO v vars 0)).av∧st'=st)
 | .mk k n s ts,st,hsm,hcv,hin=>by
  obtain⟨hlen,qE⟩:=Tm.qO hsm
  obtain⟨hc1,hcs⟩:=Tm.oZ.1 hcv
  have IH:=fun(x:Tm) (hx:x∈ts) st=>aAF vars hnd hvl x st (qE x hx) (hcs x hx) (fun v hv=>by
   by_cases hk:k=1
   · rw[(hc1 hk).2] at hx;cases hx
   · exact hin v ((Tm.mC hk).2 ⟨x,hx,hv⟩))
  generalize hg:(Tm.aM fun v=>vr (fO v vars 0))=g at IH
  refine aD.sF (aD.fin ?_)
  simp only[aY]
  refine wF [1000000,5] 2 func304 ntmps304 rfl rfl ?_
  intro _
  simp -implicitDefEqProofs only[aG,aA,↓aX,seval,nZ]
  intro b4 h4 c hc
  have hne:c≠b4:=by rintro rfl;rw[aB.aP] at hc;cases hc
  have hnc:st c=none:=by rw[aB.aJ st _ hne] at hc;exact hc
  have TQ:∀i:Nat,vars[i]?=some n→fO n vars 0=(i:Int):=fun i hi=>by
   have:=UK hnd hi 0
   omega
  generalize hW:st.aC b4 (.cells [AV.int .i64 0,AV.int .i64 0,AV.str ⟨#[]⟩,AV.fslice []])=W
  have hWc:W c=none:=by rw[←hW];exact hc
  have hW4:W b4=some (.cells [AV.int .i64 0,AV.int .i64 0,AV.str ⟨#[]⟩,AV.fslice []]):=by rw[←hW];exact aB.aP _ _ _
  have hS:W b4≠none:=by rw[hW4];simp
  have M6:b4≠c:=c9 hne
  refine iN (σ:=Nat×Int) [1000000,5] [1,2,4,5] (fun p=>p.1≤vars.length∧(k≠1→p.2=n)∧(k=1→(n∈vars.take p.1→p.2=fO n vars 0))) (fun p=>[(6,.int .i64 p.1)]) (fun p=>W.aC c (.cells [.int .i64 k,.int .i64 p.2,.str s,.fslice []])) (fun p=>vars.length - p.1) (by decide +kernel) ⟨(0,n),⟨kA _,fun _=>rfl,fun _ h=>by simp at h⟩,aN.mk (by simp -implicitDefEqProofs only[aA,↓aX,seval])⟩ ?_
  rintro⟨i,n'⟩ ⟨h1,h2,h3⟩
  simp only at h1 h2 h3
  have rest:(k=1→n'=fO n vars 0)→True:=fun _=>trivial
  simp -implicitDefEqProofs only[aF,aA,seval,nZ]
  have fin:(k=1→n'=fO n vars 0)→g (.mk k n s ts)=.mk k n' s (ts.map g):=fun h4=>by
   rw[←hg]
   by_cases hk:k=1
   · obtain⟨rfl,rfl⟩:=hc1 hk
     rw[Tm.nS _ hk,h4 hk,hk];try rfl
   · rw[Tm.mL _ hk,h2 hk]
  refine cS (fun h=>?_) (fun h=>?_)
  case refine_2=>
   have h4:(k=1→n'=fO n vars 0):=fun hk=>h3 hk (by
    have:i=vars.length:=by simp at h;omega
    rw[this,eN]
    exact hin n (by rw[Tm.oA hk];simp))
   simp -implicitDefEqProofs only[h,aA,seval]
   refine eH (σ:=Nat) [1000000,5] [1,2,4,5] ts (fun i b=>(((ts.take i).map g).map Tm.av≠[]→(aB.aC W c (.cells ([AV.int .i64 k,AV.int .i64 (n'),AV.str s]++ [bM 4 b (((ts.take i).map g).map Tm.av)]))) b=none)) (fun i b=>[(7,.int .i64 i)]) (fun i b=>f9 W c b [AV.int .i64 k,AV.int .i64 (n'),AV.str s] (((ts.take i).map g).map Tm.av)) (by decide +kernel)
    ⟨0,fun h=>absurd rfl h,aN.mk (by simp -implicitDefEqProofs only[aA,↓aX,seval])⟩ (fun i x b hx hlt bQ hdr hinv=>?_) (fun b hge hinv=>?_)
   case refine_1=>
    have hw:=bE (n:=(i:Int)+1)
    have dA:(((ts.take i).map g).map Tm.av).length=i:=by simp only[aF,dQ];omega
    have htk:(ts.take (i+1)).map g=(ts.take i).map g++ [g x]:=by rw[fS,hx];simp
    have hbo:=fA hinv
    simp -implicitDefEqProofs only[aF,bQ,aF,aA,seval,nZ]
    refine wP [(0,1),(2,1),(4,1),(7,1),(1,2),(3,2),(5,1),(6,2),(8,2),(9,1),(10,0),(11,1),(12,0)] [0,2,4,7,1,3,5,6,8,9,11] mixed ?_
    simp -implicitDefEqProofs only[bO (av:=Tm.av) aO hx (aK x),a7,aK,hbo,mE,aA,seval,nZ]
    refine iE (IH x (cJ hx) _) ?_
    simp -implicitDefEqProofs only[a7,aK,cM,aA,seval,nZ]
    refine fG aO bH bJ rfl rfl (gA (aK _) (cB _)) (eD _) hinv (by simp only[dA,aQ,bA];omega) (by simp only[dA,aQ,bA];omega) (fun b' hb'=>?_)
    rw[show(((ts.take i).map g).map Tm.av)++ [(g x).av]=((ts.take (i+1)).map g).map Tm.av by rw[htk];simp] at hb' ⊢
    obtain⟨g1,g2,g3⟩:=pG hb'
    simp only[fQ,eS] at g1 g3
    simp -implicitDefEqProofs only[g3,m9,eP,aG,g1,hw,aG,aA,seval,nZ]
    exact⟨b',g2,aN.mk (by simp -implicitDefEqProofs only[aA,seval])⟩
   have hbo:=fA hinv
   rw[eN] at hinv hbo ⊢
   simp -implicitDefEqProofs only[aF,hge,aF,aA,seval,nZ]
   simp -implicitDefEqProofs only[hbo,aG,aA,seval,nZ]
   have g1:=iA hinv hS M6
   rw[hW4] at g1
   simp -implicitDefEqProofs only[g1,eP,aA,seval]
   obtain⟨g2,g3⟩:=lB (o:=.cells [AV.int .i64 k,AV.int .i64 (n'),AV.str s,bM 4 b ((ts.map g).map Tm.av)]) hinv hS M6
   refine⟨b,_,_,g2,g3,jJ _,⟨4,eD _⟩,?_,fun x=>?_⟩
   · simp only[gJ,aW,aU,eT,jP,jE,←aY]
     rw[fin h4]
   · subst hW
     by_cases e3:x=b4<;>by_cases e4:x=c<;>simp_all [aB.aC]
  have hlt:i<vars.length:=by simpa using h
  simp -implicitDefEqProofs only[h,aA,seval,nZ]
  refine aS (fun h5=>?_) (fun h5=>?_)
  case refine_2=>
   have h5':k≠1:=by simpa using h5
   have h4:(k=1→n'=fO n vars 0):=fun hk=>absurd hk h5'
   simp -implicitDefEqProofs only[aA,seval]
   refine eH (σ:=Nat) [1000000,5] [1,2,4,5] ts (fun i b=>(((ts.take i).map g).map Tm.av≠[]→(aB.aC W c (.cells ([AV.int .i64 k,AV.int .i64 (n'),AV.str s]++ [bM 4 b (((ts.take i).map g).map Tm.av)]))) b=none)) (fun i b=>[(7,.int .i64 i)]) (fun i b=>f9 W c b [AV.int .i64 k,AV.int .i64 (n'),AV.str s] (((ts.take i).map g).map Tm.av)) (by decide +kernel)
    ⟨0,fun h=>absurd rfl h,aN.mk (by simp -implicitDefEqProofs only[aA,↓aX,seval])⟩ (fun i x b hx hlt bQ hdr hinv=>?_) (fun b hge hinv=>?_)
   case refine_1=>
    have hw:=bE (n:=(i:Int)+1)
    have dA:(((ts.take i).map g).map Tm.av).length=i:=by simp only[aF,dQ];omega
    have htk:(ts.take (i+1)).map g=(ts.take i).map g++ [g x]:=by rw[fS,hx];simp
    have hbo:=fA hinv
    simp -implicitDefEqProofs only[aF,bQ,aF,aA,seval,nZ]
    refine wP [(0,1),(2,1),(4,1),(7,1),(1,2),(3,2),(5,1),(6,2),(8,2),(9,1),(10,0),(11,1),(12,0)] [0,2,4,7,1,3,5,6,8,9,11] mixed ?_
    simp -implicitDefEqProofs only[bO (av:=Tm.av) aO hx (aK x),a7,aK,hbo,mE,aA,seval,nZ]
    refine iE (IH x (cJ hx) _) ?_
    simp -implicitDefEqProofs only[a7,aK,cM,aA,seval,nZ]
    refine fG aO bH bJ rfl rfl (gA (aK _) (cB _)) (eD _) hinv (by simp only[dA,aQ,bA];omega) (by simp only[dA,aQ,bA];omega) (fun b' hb'=>?_)
    rw[show(((ts.take i).map g).map Tm.av)++ [(g x).av]=((ts.take (i+1)).map g).map Tm.av by rw[htk];simp] at hb' ⊢
    obtain⟨g1,g2,g3⟩:=pG hb'
    simp only[fQ,eS] at g1 g3
    simp -implicitDefEqProofs only[g3,m9,eP,aG,g1,hw,aG,aA,seval,nZ]
    exact⟨b',g2,aN.mk (by simp -implicitDefEqProofs only[aA,seval])⟩
   have hbo:=fA hinv
   rw[eN] at hinv hbo ⊢
   simp -implicitDefEqProofs only[aF,hge,aF,aA,seval,nZ]
   simp -implicitDefEqProofs only[hbo,aG,aA,seval,nZ]
   have g1:=iA hinv hS M6
   rw[hW4] at g1
   simp -implicitDefEqProofs only[g1,eP,aA,seval]
   obtain⟨g2,g3⟩:=lB (o:=.cells [AV.int .i64 k,AV.int .i64 (n'),AV.str s,bM 4 b ((ts.map g).map Tm.av)]) hinv hS M6
   refine⟨b,_,_,g2,g3,jJ _,⟨4,eD _⟩,?_,fun x=>?_⟩
   · simp only[gJ,aW,aU,eT,jP,jE,←aY]
     rw[fin h4]
   · subst hW
     by_cases e3:x=b4<;>by_cases e4:x=c<;>simp_all [aB.aC]
  have hk:k=1:=by simpa using h5
  obtain⟨x,hx⟩:∃x,vars[i]?=some x:=⟨_,dZ hlt⟩
  have hat:dM prog 46 (.slice (vars.map iv)) (.int .i64 (i:Int))=some (.pptr (.int .i64 x)):=bO (av:=iv) dK hx rfl
  have hw:=bE (n:=(i:Int)+1)
  have htk:vars.take (i+1)=vars.take i++ [x]:=by rw[fS,hx];try rfl
  simp -implicitDefEqProofs only[aA,seval]
  refine wP [(0,1),(1,1),(2,1),(4,1),(3,2),(5,2),(6,1)] [0,1,2,4,3,5,6] mixed ?_
  simp -implicitDefEqProofs only[hat,aA,seval,nZ]
  refine aS (fun h6=>?_) (fun h6=>?_)
  · have h6':x=n:=by simpa using h6
    subst h6'
    simp -implicitDefEqProofs only[aG,hw,aA,seval,nZ]
    refine⟨(i+1,(i:Int)),by simp only;omega,⟨hlt,fun h=>absurd hk h,fun _ _=>(TQ i hx).symm⟩,aN.mk (by simp -implicitDefEqProofs only[aA,seval])⟩
  · have h6':x≠n:=by simpa using h6
    simp -implicitDefEqProofs only[hw,aA,seval]
    refine⟨(i+1,n'),by simp only;omega,⟨hlt,h2,fun hk hm=>h3 hk ?_⟩,aN.mk (by simp -implicitDefEqProofs only[aA,seval])⟩
    rw[htk,fF] at hm
    rcases hm with hm | hm
    · exact hm
    · simp only[c8,dX,eC] at hm
      exact absurd hm.symm h6'
termination_by t=>SizeOf.sizeOf t
decreasing_by have:=List.sizeOf_lt_of_mem hx;simp only[Tm.mk.sizeOf_spec];omega
theorem PD:∀(ts:List Tm) (l:List Int),(∀t∈ts,t.wf=true)→l.Nodup→(cD ts l).Nodup
 | [],l,_,h=>h
 | t::ts,l,hw,h=>PD ts _ (fun x hx=>hw x (by simp [hx])) ((XL t (hw t (by simp)) l).2.1 h)
theorem FF:∀l:List Tm,(∀t∈l,t.nodes≤120)→aR Tm.nodes l≤l.length*120
 | [],_=>by simp [aR]
 | x::l,h=>by
  simp only[aR,aQ]
  have:=FF l fun y hy=>h y (by simp [hy])
  have:=h x (by simp)
  omega
abbrev F3:=zi tI_3 (zi zI_3 (zi aZ (zi tI_31 (zi zI_31 (zi aO (zi bH (zi bJ (zi bZ (zi tI_46 (zi zI_46 (zi dK (zi fM (zi fJ (zi fX (zi tI_66 (zi zI_66 (zi bS (zi bT (zi bU (zi bV bR))))))))))))))))))))
theorem aWV{N:Int}(l:List Tm)(hok:∀t∈l,bF N t)(hl:l.length≤1000)(st:aB):aD prog 239 [.slice (l.map Tm.av)] st (fun r st'=>r=.slice ((qN l).map Tm.av)∧st'=st):=by
 have hnd:=FF l fun t ht=>(hok t ht).2
 have TK:=PD l [] (fun t ht=>Tm.vP t (hok t ht).1.2.1) pR
 have iG:=fun v=>A3 (v:=v) l [] fun t ht=>(hok t ht).1.2.1
 have hvl:=A2 l []
 simp only[bA] at hvl
 refine aD.done ?_
 refine wF [1000000] 1 func239 ntmps239 rfl rfl ?_
 intro _
 simp -implicitDefEqProofs only[aA,seval,F3]
 refine tE (σ:=Unit) [1000000] [0,2] l 1 3 (fun i _=>(cD (l.take i) []).map iv) (fun _ _=>True) (fun i _=>[(4,.int .i64 i)]) (fun _ _=>st) (fun i _ _ e he=>by simp only[cU] at he;obtain⟨t,_,rfl⟩:=he;exact⟨rfl,rfl⟩) (by decide +kernel) ⟨(),0,trivial,fun h=>absurd rfl h,aN.mk (by simp -implicitDefEqProofs only[kB,j9,cD,aU,aA,↓aX,seval])⟩ (fun i x s b hx hlt bQ hdr hinv hb=>?_) (fun s b hge hinv=>?_)
 case refine_1=>
  have hw:=bE (n:=(i:Int)+1)
  have hat:=bO (av:=Tm.av) aO hx (aK x)
  have hst:=yG Tm.nodes hx
  have hvl:=A2 (l.take i) []
  simp only[bA,iJ] at hvl
  have htk:x.vars (cD (l.take i) [])=cD (l.take (i+1)) []:=by
   rw[fS,hx,W6]
   try rfl
  simp -implicitDefEqProofs only[bQ,aF,hat,a7,aK,aA,seval,F3]
  refine(HG x (cD (l.take i) []) b st (Tm.vP x (hok x (cJ hx)).1.2.1) hb (by omega)).mono ?_
  rintro _ _ ⟨b',rfl,rfl,hb'⟩
  rw[htk] at hb' ⊢
  simp -implicitDefEqProofs only[aA,seval]
  exact⟨(),b',hb',aN.mk (by simp -implicitDefEqProofs only[hw,aA,seval])⟩
 simp -implicitDefEqProofs only[hge,eT,jB,o7,mI,eN,aF,aA,seval,F3]
 have hR:qN l=l.map fun t=>t.aM fun v=>vr (fO v (cD l []) 0):=rfl
 rw[hR]
 generalize cD l []=vars at *
 refine tE (σ:=Unit) [1000000] [0,2,3] l 4 5 (fun i _=>((l.take i).map fun t=>t.aM fun v=>vr (fO v vars 0)).map Tm.av) (fun _ _=>True) (fun i _=>[(6,.int .i64 i)]) (fun _ _=>st) (fun i _ _ e he=>by simp only[cU] at he;obtain⟨t,_,rfl⟩:=he;exact⟨cM _,aK _⟩) (by decide +kernel) ⟨(),0,trivial,fun h=>absurd rfl h,aN.mk (by simp -implicitDefEqProofs only[kB,j9,aU,aA,↓aX,seval])⟩ (fun i x s b hx hlt bQ hdr hinv hb=>?_) (fun s b hge hinv=>?_)
 case refine_2=>
  simp -implicitDefEqProofs only[hge,eT,jB,mI,eN,aF,aA,seval,F3]
  exact⟨rfl,aL.refl _⟩
 have hw:=bE (n:=(i:Int)+1)
 have hat:=bO (av:=Tm.av) aO hx (aK x)
 have hxm:=cJ hx
 have dA:(((l.take i).map fun t=>t.aM fun v=>vr (fO v vars 0)).map Tm.av).length=i:=by simp only[aF,dQ];omega
 simp -implicitDefEqProofs only[bQ,aF,hat,a7,aK,aA,seval,F3]
 refine(aAF vars TK (by omega) x _ (hok x hxm).1.small (hok x hxm).1.2.1 (fun v hv=>(iG v).2 (.inr ⟨x,hxm,hv⟩))).to ?_
 simp -implicitDefEqProofs only[a7,aK,cM,aA,seval,F3]
 refine fG aO bH bJ rfl rfl (gA (aK _) (cB _)) (eD _) hb (by simp only[dA,aQ,bA];omega) (by simp only[dA,aQ,bA];omega) (fun b' hb'=>?_)
 rw[show(((l.take i).map fun t=>t.aM fun v=>vr (fO v vars 0)).map Tm.av)++ [(x.aM fun v=>vr (fO v vars 0)).av]=((l.take (i+1)).map fun t=>t.aM fun v=>vr (fO v vars 0)).map Tm.av by rw[fS,hx];simp] at hb' ⊢
 simp -implicitDefEqProofs only[aA,seval]
 exact⟨(),b',hb',aN.mk (by simp -implicitDefEqProofs only[hw,aA,seval])⟩
abbrev aRW:=zi tI_3 (zi zI_3 (zi aZ (zi tI_4 (zi zI_4 (zi cG (zi tI_31 (zi zI_31 (zi aO (zi bH (zi bJ (zi bZ (zi tI_66 (zi zI_66 (zi bS (zi bT (zi bU (zi bV bR)))))))))))))))))
theorem aWM(l:List Tm)(st:aB):aD prog 134 [.slice (l.map Tm.av)] st (fun r st'=>r=.bool (l.all Tm.valid)∧st'=st):=by
 refine wF [1000000] 1 func134 ntmps134 rfl rfl ?_
 simp only[d5,AV.fits,d9,aF]
 intro ⟨hl,_⟩
 simp -implicitDefEqProofs only[aA,seval]
 refine eH (σ:=Unit) [1000000] [0] l (fun i _=>((l.drop i).all Tm.valid)=(l.all Tm.valid)) (fun i _=>[(3,.int .i64 i)]) (fun _ _=>st) (by decide +kernel) ⟨(),rfl,aN.mk (by simp -implicitDefEqProofs only[aA,↓aX,seval])⟩ (fun i x _ hx hlt bQ hdr hinv=>?_) (fun _ hge hinv=>?_)
 case refine_2=>
  simp -implicitDefEqProofs only[hge,aF,aA,seval,aRW]
  rw[←hinv,j8]
  try rfl
 have hw:=bE (n:=(i:Int)+1)
 rw[hdr,lE] at hinv
 simp -implicitDefEqProofs only[bQ,aF,bO (av:=Tm.av) aO hx (aK x),a7,aK,aA,seval,aRW]
 refine(RV x _).to ?_
 simp -implicitDefEqProofs only[aA,seval]
 refine aS (fun h2=>?_) (fun h2=>?_)
 · simp -implicitDefEqProofs only[aA,seval]
   simp only[iX] at h2
   rw[←hinv,h2]
   try rfl
 · simp only[mD] at h2
   rw[h2,fP] at hinv
   simp -implicitDefEqProofs only[aA,seval]
   exact⟨(),hinv,aN.mk (by simp -implicitDefEqProofs only[hw,aA,seval])⟩
theorem aOH(v:Int):∀(l:List Int) (i:Int),v∈l→i≤fO v l i∧fO v l i<i+l.length
 | [],i,h=>by cases h
 | x::l,i,h=>by
  simp only[fO,aQ]
  split
  · omega
  · rename_i e
    have h':v∈l:=by
     rcases c8.1 h with h | h
     · exact absurd h e
     · exact h
    have:=aOH v l (i+1) h'
    omega
theorem aP8{N:Int}{l:List Tm}(hok:∀t∈l,bF N t)(hf:l.all eQ=true):(qN l).all Tm.valid=decide ((cD l []).length≤26):=by
 have iG:=fun v=>A3 (v:=v) l [] fun t ht=>(hok t ht).1.2.1
 have TK:=PD l [] (fun t ht=>Tm.vP t (hok t ht).1.2.1) pR
 have hro:∀t∈l,cL (cD l []).length (t.aM fun v=>vr (fO v (cD l []) 0)):=fun t ht=>
  (hok t ht).1.aM fun v hv=>by
   have:=aOH v (cD l []) 0 ((iG v).2 (.inr ⟨t,ht,hv⟩))
   exact I6 (by omega) (by omega)
 have fD:∀t∈l,eQ (t.aM fun v=>vr (fO v (cD l []) 0))=true:=fun t ht=>by
  have:=eW.1 hf t ht
  unfold eQ at this ⊢
  rw[show(t.aM fun v=>vr (fO v (cD l []) 0))=b7 (fun v=>fO v (cD l []) 0) t from rfl,VT _ (hok t ht).1.2.1,N4 _ (hok t ht).1.2.1]
  exact this
 rw[wQ,eW,bL]
 constructor
 · intro h
   refine DN fun hn=>?_
   obtain⟨w,hw⟩:∃w,(cD l [])[26]?=some w:=⟨_,dZ (by omega)⟩
   rcases (iG w).1 (cJ hw) with h1 | ⟨t,ht,hv⟩
   · cases h1
   · have sN:=h _ (cU.2 ⟨t,ht,rfl⟩)
     have hin:=(Tm.KE sN).2.2 26 ((A4 t).2 ⟨w,hv,by rw[UK TK hw 0,A5];simp⟩)
     omega
 · intro h x hx
   obtain⟨t,ht,rfl⟩:=cU.1 hx
   have h1:=aPM.2 ((hro t ht).mono (show((cD l []).length:Int)≤26 by omega))
   rw[Tm.aS5 h1]
   exact fD t ht
theorem a6B{N:Int}{l:List Tm}(hok:∀t∈l,bF N t):(qN l).length=l.length:=by unfold qN;rw[aF]
abbrev yI:=zi tI_3 (zi zI_3 (zi aZ (zi tI_4 (zi zI_4 (zi cG (zi tI_31 (zi zI_31 (zi aO (zi bH (zi bJ (zi bZ (zi tI_46 (zi zI_46 (zi dK (zi fM (zi fJ (zi fX (zi tI_59 (zi zI_59 (zi vU (zi vI (zi tI_66 (zi zI_66 (zi bS (zi bT (zi bU (zi bV bR)))))))))))))))))))))))))))
theorem aXP{N:Nat}{σ:Sub}(hg:cT σ)(ho:cW (bF N) σ)(vars:List Int)(hv:∀v∈vars,0≤v∧v<(N:Int))(hl:vars.length≤1000)(st:aB) :
 aD prog 159 [.slice (vars.map iv),.slice (cY N σ)] st (fun r st'=>st'=st∧∃a,r=.tup [cI a,.bool (kC σ vars).isSome]∧∀x,kC σ vars=some x→a=x):=by
 obtain⟨rk,B,G⟩:=hg.rs
 refine aD.nB (aD.soft ?_)
 refine wF [1000000] 2 func159 ntmps159 rfl rfl ?_
 intro _
 simp -implicitDefEqProofs only[aA,seval,yI]
 intro b4 h4
 refine tE (σ:=Unit) [1000000] [0,1,4] vars 4 6 (fun i _=>((vars.take i).map (rs σ)).map Tm.av) (fun i _=>((vars.take i).map (rs σ)).all eQ=true) (fun i _=>[(5,.bool false),(7,.int .i64 i)]) (fun _ _=>st.aC b4 (.cells [.fslice []])) (fun i _ _ e he=>by simp only[cU] at he;obtain⟨t,_,rfl⟩:=he;exact⟨cM _,aK _⟩) (by decide +kernel) ⟨(),0,rfl,fun h=>absurd rfl h,aN.mk (by simp -implicitDefEqProofs only[kB,j9,aU,aA,↓aX,seval])⟩ (fun i x s b hx hlt bQ hdr hinv hb=>?_) (fun s b hge hinv=>?_)
 · have hw:=bE (n:=(i:Int)+1)
   have hxm:=cJ hx
   obtain⟨hx0,hx1⟩:=hv x hxm
   have hvr:bF N (vr x):=⟨I6 hx0 hx1,by rw[vr,Tm.iI];simp [aR]⟩
   have hat:dM prog 46 (.slice (vars.map iv)) (.int .i64 (i:Int))=some (.pptr (.int .i64 x)):=bO (av:=iv) dK hx rfl
   have dA:(((vars.take i).map (rs σ)).map Tm.av).length=i:=by simp only[aF,dQ];omega
   have dN:((vars.take (i+1)).map (rs σ)).all eQ=eQ (rs σ x):=by
    rw[fS,hx]
    simp only[DS,oC,aW,aU,DO,hinv,lE,List.all_nil,DM,fP]
   simp -implicitDefEqProofs only[bQ,aF,hat,aA,seval,yI]
   refine(LV x _).to ?_
   simp -implicitDefEqProofs only[aA,seval]
   refine(RN hg ho (vr x) hvr _).mono ?_
   rintro _ _ ⟨rfl,y,rfl,hy⟩
   rw[x7] at hy ⊢
   simp -implicitDefEqProofs only[aK,cB,cM,aA,↓aX,seval,yI]
   refine aS (fun h=>?_) (fun h=>?_)
   · have h':eQ (rs σ x)=false:=by simpa using h
     have rC:kC σ vars=none:=by
      unfold kC
      rw[aE]
      rintro⟨h1,_⟩
      have:=eW.1 h1 _ (cU.2 ⟨x,hxm,rfl⟩)
      rw[h'] at this;cases this
     have hbo:∀l,(l≠[]→st b=none)→(l≠[]→b≠b4)→(a8 (st.aC b4 (.cells [.fslice []])) b l) b4=some (.cells [.fslice []]):=fun l _ h2=>by
      cases l with
      | nil=>exact aB.aP _ _ _
      | cons e l=>simp only[a8];rw[aB.aJ _ _ (c9 (h2 (by simp)))];exact aB.aP _ _ _
     have hnb:((vars.take i).map (rs σ)).map Tm.av≠[]→b≠b4:=fun h=>by rintro rfl;have:=hb h;rw[aB.aP] at this;cases this
     have a2L:((vars.take i).map (rs σ)).map Tm.av≠[]→st b=none:=fun h=>by have:=hb h;rw[aB.aJ _ _ (hnb h)] at this;exact this
     have e1:=hbo _ a2L hnb
     simp -implicitDefEqProofs only[aG,e1,aA,seval,yI]
     rw[rC]
     refine⟨st,?_,rfl,[],rfl,fun x h=>by cases h⟩
     intro z
     by_cases hz:z=b4
     · subst hz;simp [aB.aC,h4]
     · rw[aB.aJ _ _ hz]
       exact((aL.a8 (aL.refl _) hb).trans ((aL.refl st).aC h4)) z
   · have h':eQ (rs σ x)=true:=by simpa using h
     obtain rfl:=hy h'
     simp -implicitDefEqProofs only[a7,aK,cM,aA,seval,yI]
     refine fG aO bH bJ rfl rfl (gA (aK _) (cB _)) (eD _) hb (by simp only[dA,aQ,bA];omega) (by simp only[dA,aQ,bA];omega) (fun b' hb'=>?_)
     rw[show(((vars.take i).map (rs σ)).map Tm.av)++ [(rs σ x).av]=((vars.take (i+1)).map (rs σ)).map Tm.av by rw[fS,hx];simp] at hb' ⊢
     simp -implicitDefEqProofs only[hw,aA,seval]
     exact⟨(),b',by rw[dN];exact h',hb',aN.mk (by simp -implicitDefEqProofs only[aA,seval])⟩
 · rw[eN] at hinv
   have hok:∀t∈vars.map (rs σ),bF N t:=fun t ht=>by
    obtain⟨v,h,rfl⟩:=cU.1 ht
    obtain⟨h0,h1⟩:=hv v h
    have hf:=eW.1 hinv _ ht
    unfold eQ at hf
    simp only[cK,bL] at hf
    exact⟨G.mN ho.mN v h0 h1,hf.2⟩
   have sN:=aP8 hok hinv
   have rC:kC σ vars=if(cD (vars.map (rs σ)) []).length≤26 then some (qN (vars.map (rs σ))) else none:=by
    unfold kC
    simp only[hinv,rQ]
   have a2Y:=fun st=>aWV _ hok (by rw[aF];exact hl) st
   have dN:=fun st=>aWM (qN (vars.map (rs σ))) st
   rw[sN] at dN
   generalize qN (vars.map (rs σ))=R at *
   generalize (cD (vars.map (rs σ)) []).length=m at *
   simp -implicitDefEqProofs only[hge,eT,q7,jB,H1,mI,eN,xM,aF,aA,seval,yI]
   refine(a2Y _).to ?_
   simp -implicitDefEqProofs only[aA,↓aX,seval,yI]
   refine wP [(1,1),(0,2),(2,2),(3,2),(4,0),(5,1)] [1,0,2,3,5] mixed ?_
   simp -implicitDefEqProofs only[aA,seval,yI]
   refine iE (dN _) ?_
   simp -implicitDefEqProofs only[aG,aA,seval,yI]
   refine⟨st,(aL.refl _).aC h4,rfl,R,?_,fun x h=>?_⟩
   · rw[rC]
     simp only[eG,eJ,uP,fV,aW,aU]
     by_cases h:m≤26
     · simp [h]
     · simp [h]
   · rw[rC] at h
     split at h
     · cases h;rfl
     · cases h
theorem JC(k n:Int)(s:ByteArray)(ts:List Tm)(rest:List RG)(left:List Nat)(σ:Sub)(N:Nat):gO ⟨.mk k n s ts,rest,left,σ,N⟩=.agg [.int .i64 k,.int .i64 n,.str s,.slice (ts.map Tm.av),.slice (rest.map eO),.slice (left.map nv),.slice (cY N σ)]:=rfl
structure r0 (p:List Cl) (c:RC):Prop where
 gW:cT c.σ
 ok:cW (bF c.N) c.σ
 xG:∀n,¬(0≤n∧n<(c.N:Int))→c.σ n=none
 goal:bF c.N c.goal
 rest:∀g∈c.rest,bF c.N g.t∧g.t.k=3
 left:∀i∈c.left,i<p.length
 len:c.rest.length≤524288
 a4E:c.left.length≤1048576
structure oE (p:List Cl) (B:Nat) (s:RS):Prop where
 gW:cT s.σ
 ok:cW (bF s.N) s.σ
 xG:∀n,¬(0≤n∧n<(s.N:Int))→s.σ n=none
 goals:∀g∈s.goals,bF s.N g.t∧g.t.k=3
 pos:0<s.N
 hN:s.N≤B
 gl:s.goals.length≤B
 pZ:s.chs.length≤B
 chs:∀c∈s.chs,r0 p c∧c.N+26≤B∧c.rest.length+26≤B∧0<c.N
theorem cW.upN{N M:Nat}{σ:Sub}(h:cW (bF N) σ)(hm:N≤M):cW (bF M) σ:=h.imp fun t ht=>ht.mono (by omega)
theorem aUM{N k:Nat}{σ:Sub}(hd:∀n,¬(0≤n∧n<(N:Int))→σ n=none):cY N σ++List.replicate k zt=cY (N+k) σ:=by
 apply KM
 intro i
 have hl:=vH N σ
 by_cases hi:i<N
 · rw[P0 (by omega),BP N σ hi,BP (N+k) σ (by omega)]
 · rw[XW (by omega),hl]
   by_cases h2:i<N+k
   · rw[BP (N+k) σ h2,hd (i:Int) (fun h=>hi (by omega)),List.getElem?_replicate,aH (by omega)]
     try rfl
   · rw[yS (by simp;omega),yS (by rw[vH];omega)]
theorem aUF{N k b:Nat}{σ:Sub}(hd:∀n,¬(0≤n∧n<(N:Int))→σ n=none)(hN:N+k≤1048576){st:aB}{K:AV→aB→Prop}(hb:st b=none)
 (hK:∀b',st b'=none→K (.mslice b' 0 (N+k) 4) (st.aC b' (.cells ((cY (N+k) σ).flatMap AV.cells)))) :
 tO prog 31 3 (st.aC b (.cells ((cY N σ).flatMap AV.cells))) (.mslice b 0 N 4) (.int .i64 (k:Int)) K:=by
 have hu:prog.underlying 3=some (.int .i64):=by kernel_rfl
 have hl:((cY N σ).flatMap AV.cells).length=N*4:=by rw[p6 (fun e he=>(Y9 N σ e he).1),vH]
 have nG:((cY N σ).flatMap AV.cells).take (N*4)++j5 [AV.int .i64 0,.int .i64 0,.str ⟨#[]⟩,.fslice []] k=(cY (N+k) σ).flatMap AV.cells:=by
  rw[←hl,eN,IZ _ (by simp),←aUM hd,yR,List.flatMap_replicate]
  try rfl
 unfold tO
 simp only[aO,bH,bJ,hu,aB.aP,jU]
 refine⟨rfl,by omega,rfl,by omega,trivial,by omega,by omega,by omega,?_,fun b' hb'=>?_⟩
 · rw[nG,c7]
   exact hK b hb
 · rw[nG,aB.vR st b _ hb]
   refine hK b' ?_
   by_cases h:b'=b
   · subst h;exact hb
   · rwa [aB.aJ _ _ h] at hb'
theorem aSV{st s2 V:aB}{o' o6:AO}{b6 b11 b13 b14 b:Nat}{L A:List AV}(hD:aL s2 st)(hA:s2 b11=some (.cells (A.flatMap AV.cells)))(h11:st b11=none)(h6:st b6=none)(h62:s2 b6≠none)(aND:b6≠b11)(h13:s2 b13=none)(h14:s2 b14=none)
 (hV:∀q,q≠b13→q≠b14→V q=s2 q) (M0:V b13≠none) (EZ:V b14≠none) (hb:L≠[]→V b=none) (hne:A≠[]) :
 aL (((a8 V b L).aC b13 o').aC b6 o6) (a8 (a8 st b11 A) b L)∧(L≠[]→(a8 st b11 A) b=none):=by
 have aNM:b13≠b11:=by rintro rfl;rw[h13] at hA;cases hA
 have a1C:b14≠b11:=by rintro rfl;rw[h14] at hA;cases hA
 have MW:b13≠b6:=by rintro rfl;exact h62 h13
 have n13:st b13=none:=(hD b13).1 h13
 have n14:st b14=none:=(hD b14).1 h14
 rw[jY hne]
 have hbb:L≠[]→b≠b13∧b≠b11∧b≠b6∧b≠b14∧s2 b=none:=fun h=>by
  have h0:=hb h
  have e13:b≠b13:=by rintro rfl;exact M0 h0
  have e14:b≠b14:=by rintro rfl;exact EZ h0
  rw[hV b e13 e14] at h0
  exact⟨e13,(by rintro rfl;rw[h0] at hA;cases hA),(by rintro rfl;exact h62 h0),e14,h0⟩
 refine⟨fun q=>?_,fun h=>?_⟩
 · by_cases q6:q=b6
   · subst q6
     have:a8 (st.aC b11 (.cells (A.flatMap AV.cells))) b L q=none:=by
      by_cases hL:L= []
      · subst hL;simp only[a8];rw[aB.aJ _ _ aND,h6]
      · obtain⟨_,_,e6,_⟩:=hbb hL
        rw[jY hL,aB.aJ _ _ (c9 e6),aB.aJ _ _ aND,h6]
     rw[this];simp
   rw[aB.aJ _ _ q6]
   by_cases q13:q=b13
   · subst q13
     have:a8 (st.aC b11 (.cells (A.flatMap AV.cells))) b L q=none:=by
      by_cases hL:L= []
      · subst hL;simp only[a8];rw[aB.aJ _ _ aNM,n13]
      · obtain⟨e13,_⟩:=hbb hL
        rw[jY hL,aB.aJ _ _ (c9 e13),aB.aJ _ _ aNM,n13]
     rw[this];simp
   rw[aB.aJ _ _ q13]
   have rest:q≠b∨L= []→(V q=none→st.aC b11 (.cells (A.flatMap AV.cells)) q=none)∧∀o,st.aC b11 (.cells (A.flatMap AV.cells)) q=some o→V q=some o:=fun _=>by
    by_cases q14:q=b14
    · subst q14
      rw[aB.aJ _ _ a1C,n14]
      simp
    rw[hV q q13 q14]
    by_cases q11:q=b11
    · subst q11;rw[aB.aP,hA];simp
    rw[aB.aJ _ _ q11]
    exact hD q
   by_cases hL:L= []
   · subst hL
     exact rest (.inr rfl)
   · rw[jY hL,jY hL]
     by_cases qb:q=b
     · subst qb;rw[aB.aP,aB.aP];simp
     rw[aB.aJ _ _ qb,aB.aJ _ _ qb]
     exact rest (.inl qb)
 · obtain⟨e13,e11,e6,e14,h0⟩:=hbb h
   rw[aB.aJ _ _ e11]
   exact(hD b).1 h0
theorem LC{st:aB}{b q:Nat}{l:List AV}{o:AO}(hb:l≠[]→st b=none)(h:st q=some o):a8 st b l q=some o:=by
 cases l with
 | nil=>exact h
 | cons x l=>
  rw[jY (by simp),aB.aJ _ _ (by rintro rfl;rw[hb (by simp)] at h;cases h)]
  exact h
theorem aM0{b b' o n w:Nat}{l:List AV}(h:l≠[]→b'≠b):(AV.mslice b' o n w).fin b l=.mslice b' o n w:=by
 unfold AV.fin
 cases l with
 | nil=>rfl
 | cons x l=>
  simp only[List.isEmpty_cons,jC,dI]
  cases o with
  | zero=>simp only[AV.fz];rw[aE (fun e=>h (by simp) e.1)];try rfl
  | succ o=>rfl
theorem MS{b N:Nat}{σ:Sub}(h0:0<N):(AV.mslice b 0 N 4).fin b (cY N σ)=.slice (cY N σ):=by
 have hl:=vH N σ
 have h:cY N σ≠[]:=by intro e;rw[e] at hl;simp at hl;omega
 have:bM 4 b (cY N σ)=.mslice b 0 N 4:=by rw[pW h,hl]
 rw[←this,jE]
theorem a5Z(l:List RC):∀e∈l.map gO,e.cH=false:=by intro e he;simp only[cU] at he;obtain⟨t,_,rfl⟩:=he;exact a5X t
theorem a50(l:List RC):∀e∈l.map gO,e.width=7:=by intro e he;simp only[cU] at he;obtain⟨t,_,rfl⟩:=he;exact N2 t
theorem aQV{φ:AF}{d i:Nat}{l:List Nat}(hi:i+1<l.length)(h:φ d=.int .i64 ((i:Int)+1)):iK prog φ 46 (.slice (l.map nv)) (some (.tmp d)) none none=some (.slice ((l.drop (i+1)).map nv)):=by
 have he:φ.eval (.tmp d)=.int .i64 ((i:Int)+1):=h
 have hb:d8 φ (some (.tmp d)) 0 l.length=some (i+1):=by
  simp only[d8,he]
  rw[aH (by omega)]
  congr 1
 have hwo:DH (l.map nv) (i+1) 1=true:=by
  unfold DH
  rw[nO,dZ hi]
  try rfl
 unfold iK
 rw[aE (by simp [rH])]
 simp only[oY,dK]
 rw[aE (by simp)]
 simp only[d8] at hb ⊢
 have ht:List.take l.length (l.map nv)=l.map nv:=lT (by simp)
 simp only[aF,hb,hwo,or_true,gB,ht]
 simp [GJ]
abbrev sZ:=zi tI_3 (zi zI_3 (zi aZ (zi tI_4 (zi zI_4 (zi cG (zi tI_29 (zi zI_29 (zi fN (zi iT (zi iU (zi jK (zi tI_31 (zi zI_31 (zi aO (zi bH (zi bJ (zi bZ (zi tI_46 (zi zI_46 (zi dK (zi fM (zi fJ (zi fX (zi tI_66 (zi zI_66 (zi bS (zi bT (zi bU (zi bV (zi bR (zi tI_84 (zi zI_84 (zi kG (zi kH (zi kD (zi tI_163 (zi zI_163 (zi sH (zi zH (zi zL (zi F9 (zi tI_164 (zi zI_164 (zi xJ (zi EL (zi EN (zi PK (zi tI_166 (zi zI_166 (zi B1 (zi B2 (zi B3 (zi BQ (zi tI_254 (zi zI_254 (zi MM (zi MN (zi MO (zi MP LK)))))))))))))))))))))))))))))))))))))))))))))))))))))))))))
theorem LX(p:List Cl)(hp:∀c∈p,fL c∧c.2.length≤6)(gs0:List RG)(σ0:List AV)(cs:List RC)(c:RC)(hc:r0 p c)(h0:0<c.N)(hN:c.N≤524288)(hcl:cs.length≤524288)(st:aB) :
 aD prog 241 [.slice (p.map bB),.agg [.slice (gs0.map eO),.slice σ0,.slice (cs.map gO)],gO c] st (fun r st'=>st'=st∧r=match fK p cs c.goal c.rest c.σ c.N c.left with
  | some s=>.tup [d6 s,.bool true]
  | none=>.tup [.agg [.slice (gs0.map eO),.slice σ0,.slice (cs.map gO)],.bool false]):=by
 obtain⟨goal,rest,left,σ,N⟩:=c
 obtain⟨hg,ho,hd,hgo,hr,hle,hrl,hll⟩:=hc
 simp only at hg ho hd hgo hr hle hrl hll h0 hN
 obtain⟨gk,gn,gs',gts⟩:=goal
 rw[JC]
 refine aD.fin (aD.fin (aD.nB ?_))
 refine wF [1000000,13] 3 func241 ntmps241 rfl rfl ?_
 intro _
 simp -implicitDefEqProofs only[aA,seval,sZ]
 intro b6 h6
 generalize hW:st.aC b6 (.cells [.fslice [],.fslice [],.fslice []])=W
 have hW6:W b6=some (.cells [.fslice [],.fslice [],.fslice []]):=by rw[←hW];exact aB.aP _ _ _
 have hDW:aL W st:=by rw[←hW];exact(aL.refl _).aC h6
 refine eH (σ:=Unit) [1000000] [0,4,5,6] left (fun i _=>fK p cs (.mk gk gn gs' gts) rest σ N (left.drop i)=fK p cs (.mk gk gn gs' gts) rest σ N left) (fun i _=>[(7,.bool false),(8,.int .i64 i)]) (fun _ _=>W) (by decide +kernel) ⟨(),rfl,aN.mk (by simp -implicitDefEqProofs only[aA,↓aX,seval])⟩ (fun i x _ hx hlt bQ hdr hinv=>?_) (fun _ hge hinv=>?_)
 case refine_2=>
  simp -implicitDefEqProofs only[hge,aG,hW6,aF,aA,seval,sZ]
  refine⟨st,?_,0,[],st,rfl,by simp,by simp,⟨0,by simp⟩,0,[],st,rfl,by simp,by simp,⟨0,by simp⟩,rfl,?_⟩
  · intro z
    have:=hDW z
    by_cases hz:z=b6
    · subst hz;simp [aB.aC,h6]
    · rw[aB.aJ _ _ hz];exact this
  · rw[←hinv,j8]
    simp only[gJ,kS,q7,jB,aW,aU,fK]
 have hw:=bE (n:=(i:Int)+1)
 have hxl:=hle x (cJ hx)
 obtain⟨cl,hcx⟩:∃cl,p[x]?=some cl:=⟨_,dZ hxl⟩
 obtain⟨uF,rD⟩:=hp cl (cJ hcx)
 rw[hdr,fK.eq_def] at hinv
 simp only[hcx] at hinv
 have hat:dM prog 46 (.slice (left.map nv)) (.int .i64 (i:Int))=some (.pptr (.int .i64 (x:Int))):=bO (av:=nv) dK hx rfl
 have CB:=bO (av:=bB) (P:=prog) fN hcx (i8 cl)
 have hcf:=aXR cl uF rD
 obtain⟨⟨k,n,s',ts⟩,bd⟩:=cl
 rw[fU] at CB hcf
 simp only at hinv
 simp -implicitDefEqProofs only[bQ,aF,vH,hat,CB,aA,↓aX,seval,sZ]
 refine wX [(0,1),(1,1),(2,1),(4,1),(3,0),(5,0),(6,0),(7,1)] [0,1,2,4,7] fE mixed rfl fZ ?_
 simp -implicitDefEqProofs only[aA,seval,sZ]
 have hfr:=uF.fr.1
 have hHd:=uF.cZ N (.mk k n s' ts) (by simp)
 have hBd:=fun t ht=>(uF.FJ t (List.mem_cons_of_mem _ ht))
 refine QW h0 (by omega) σ fun b hb hA0=>?_
 simp -implicitDefEqProofs only[aA,seval]
 refine⟨fZ,?_⟩
 refine(hcf _).to ?_
 simp -implicitDefEqProofs only[aA,seval]
 refine⟨fZ,?_⟩
 refine aUF hd (by omega) hb fun b11 h11=>?_
 simp -implicitDefEqProofs only[aA,seval]
 refine⟨fZ,?_⟩
 have hA:=(show gD (N+nF (.mk k n s' ts,bd)) (W.aC b11 (.cells ((cY (N+nF (.mk k n s' ts,bd)) σ).flatMap AV.cells))) b11 σ from aB.aP _ _ _)
 have hDT:aL (W.aC b11 (.cells ((cY (N+nF (.mk k n s' ts,bd)) σ).flatMap AV.cells))) W:=(aL.refl _).aC h11
 have hh:=uF.head
 generalize nF (.mk k n s' ts,bd)=fr at *
 generalize W.aC b11 (.cells ((cY (N+fr) σ).flatMap AV.cells))=T at *
 have hsh:Tm.sh (N:Int) (.mk k n s' ts)=cZ N (.mk k n s' ts):=aQL N (by omega) _ hh.1
 have hcs:=RH (N:Int) (.mk k n s' ts)
 rw[hsh] at hcs
 have hun:=HD (N:=N+fr) (by omega) hg (ho.upN (by omega)) (.mk gk gn gs' gts) (cZ N (.mk k n s' ts)) (hgo.mono (by omega)) hHd b11
 generalize cZ N (.mk k n s' ts)=y at *
 obtain⟨yk,yn,ys,yt⟩:=y
 refine wX [(0,1),(1,1),(2,1),(3,1),(4,1),(6,1),(5,0),(7,0),(8,1)] [0,1,2,3,4,6,8] fE mixed rfl fZ ?_
 simp -implicitDefEqProofs only[aA,seval,sZ]
 have hsm:=hh.1.small
 simp only[aY] at hun hcs ⊢
 refine(hcs _ hsm).to ?_
 simp -implicitDefEqProofs only[aA,seval]
 refine⟨fZ,?_⟩
 refine(hun _ hA).mono ?_
 rintro _ s2 ⟨rfl,hA2,hk2⟩
 simp -implicitDefEqProofs only[aA,seval]
 refine⟨fZ,?_⟩
 generalize iD σ (.mk gk gn gs' gts) (.mk yk yn ys yt)=u at *
 obtain⟨r,σ',tr⟩:=u
 simp only at hinv hA2 ⊢
 have M1:W b11=none:=h11
 have hDs:aL s2 W:=by
  intro q
  have key:∀o,W q=some o→s2 q=some o:=fun o h=>hk2 q o ((hDT q).2 o h) (by rintro rfl;rw[M1] at h;cases h)
  refine⟨fun h=>?_,key⟩
  cases hq:W q with
  | none=>rfl
  | some o=>rw[key o hq] at h;cases h
 refine aS (fun h=>?_) (fun h=>?_)
 · have hr:r=false:=by simpa using h
   rw[aE (by rw[hr];simp)] at hinv
   simp -implicitDefEqProofs only[hw,aA,seval]
   exact⟨(),hinv,aN.drop hDs (by simp -implicitDefEqProofs only[aA,seval])⟩
 have hr':r=true:=by simpa using h
 rw[aH hr'] at hinv
 have hg9:=aAU bd N cs.length rest hBd rD (by omega) (by omega)
 generalize hgs:bd.map (fun t=>(⟨cZ N t,cs.length⟩:RG))++rest=gs2 at *
 simp -implicitDefEqProofs only[aF,aA,seval,sZ]
 refine wP [(0,1),(1,1),(3,1),(5,1),(6,1),(7,1),(2,2),(4,2),(8,2),(9,1),(10,1),(11,0),(12,0)] [0,1,3,5,6,7,2,4,8,9,10] mixed ?_
 simp -implicitDefEqProofs only[aA,seval,sZ]
 refine R7 hg9 ?_
 simp -implicitDefEqProofs only[aG,aF,hw,aA,seval,sZ]
 intro b13 h13
 have a02:b13≠b11:=by rintro rfl;rw[gD,h13] at hA2;cases hA2
 have h62:s2 b6≠none:=by rw[(hDs b6).2 _ hW6];simp
 have MW:b6≠b13:=by rintro rfl;exact h62 h13
 have aNC:b6≠b11:=by rintro rfl;rw[hW6] at M1;cases M1
 have ND:st b11=none:=(hDW b11).1 M1
 have aNF:=(hDs b6).2 _ hW6
 have hNf:0<N+fr:=by omega
 have pA:cY (N+fr) σ'≠[]:=by intro e;have:=vH (N+fr) σ';rw[e] at this;simp at this;omega
 refine aS (fun h=>?_) (fun h=>?_)
 · have h':i+1<left.length:=by simp at h;omega
   have hsl:=fun(φ:AF) (d:Nat) (h:φ d=.int .i64 ((i:Int)+1))=>aQV h' h
   simp -implicitDefEqProofs only[aA,seval]
   refine wP [(0,1),(2,1),(4,1),(6,1),(7,1),(9,1),(1,2),(3,2),(5,2),(8,1),(10,2),(11,1),(12,0),(13,0)] [0,2,4,6,7,9,1,3,5,8,10,11] mixed ?_
   simp -implicitDefEqProofs only[aG,hsl,hw,aA,seval,sZ]
   intro b14 h14
   have aN2:b14≠b13:=by rintro rfl;rw[aB.aP] at h14;cases h14
   have S5:s2 b14=none:=by rw[aB.aJ _ _ aN2] at h14;exact h14
   have a03:b6≠b14:=by rintro rfl;exact h62 S5
   generalize hV:(s2.aC b13 (AO.cells [AV.slice (gs2.map eO),AV.mslice b11 0 (N+fr) 4,AV.slice (cs.map gO)])).aC b14 (.cells [.int .i64 gk,.int .i64 gn,.str gs',.slice (gts.map Tm.av),.slice (rest.map eO),.slice ((left.drop (i+1)).map nv),.slice (cY N σ)])=V
   have EZ:V b14=some (.cells [.int .i64 gk,.int .i64 gn,.str gs',.slice (gts.map Tm.av),.slice (rest.map eO),.slice ((left.drop (i+1)).map nv),.slice (cY N σ)]):=by rw[←hV];exact aB.aP _ _ _
   have M0:V b13=some (AO.cells [AV.slice (gs2.map eO),AV.mslice b11 0 (N+fr) 4,AV.slice (cs.map gO)]):=by rw[←hV,aB.aJ _ _ (c9 aN2)];exact aB.aP _ _ _
   have hV6:V b6=some (.cells [.fslice [],.fslice [],.fslice []]):=by rw[←hV,aB.aJ _ _ a03,aB.aJ _ _ MW];exact aNF
   have hVq:∀q,q≠b13→q≠b14→V q=s2 q:=fun q e1 e2=>by rw[←hV,aB.aJ _ _ e2,aB.aJ _ _ e1]
   refine wX [(0,1),(1,1),(2,1),(4,1),(5,1),(3,0),(6,0),(7,1),(8,2)] [0,1,2,4,5,7] (one b14 (.cells [.int .i64 gk,.int .i64 gn,.str gs',.slice (gts.map Tm.av),.slice (rest.map eO),.slice ((left.drop (i+1)).map nv),.slice (cY N σ)])) mixed rfl (gH EZ) ?_
   simp -implicitDefEqProofs only[uN,aA,seval,sZ]
   have hlc:(cs.map gO).length=cs.length:=aF _
   refine fG (P:=prog) (b:=0) (l:=[]) (xs:=cs.map gO) xJ EL EN rfl rfl (by intro e he;simp only[cU] at he;obtain⟨t,_,rfl⟩:=he;exact⟨N2 t,a5Y t⟩) (by simp) (by simp) (by simp only[bA,hlc];omega) (by simp only[bA,hlc];omega) (fun b15 h15=>?_)
   rw[eS] at h15 ⊢
   simp -implicitDefEqProofs only[aA,seval]
   refine⟨gH (LC h15 EZ),?_⟩
   refine fG (P:=prog) (b:=b15) (l:=cs.map gO) (xs:=[gO ⟨.mk gk gn gs' gts,rest,left.drop (i+1),σ,N⟩]) xJ EL EN rfl rfl (gA rfl rfl) (by intro e he;simp only[cU] at he;obtain⟨t,_,rfl⟩:=he;exact N2 t) h15 (by simp only[aQ,bA,hlc];omega) (by simp only[aQ,bA,hlc];omega) (fun b16 h16=>?_)
   rw[show(cs.map gO)++ [gO ⟨.mk gk gn gs' gts,rest,left.drop (i+1),σ,N⟩]=(cs++ [(⟨.mk gk gn gs' gts,rest,left.drop (i+1),σ,N⟩:RC)]).map gO by simp] at h16 ⊢
   have g13:=LC h16 M0
   have g14:=LC h16 EZ
   have g6:=LC h16 hV6
   have hdn:left.drop (i+1)≠[]:=by intro e;have:=jG List.length e;simp at this;omega
   rw[aE hdn] at hinv
   generalize hLL:cs++ [(⟨.mk gk gn gs' gts,rest,left.drop (i+1),σ,N⟩:RC)]=LL at *
   have E:=aSV (o':=.cells [AV.slice (gs2.map eO),AV.mslice b11 0 (N+fr) 4,bM 7 b16 (LL.map gO)]) (o6:=.cells [AV.slice (gs2.map eO),AV.mslice b11 0 (N+fr) 4,bM 7 b16 (LL.map gO)]) (hDs.trans hDW) hA2 ND h6 h62 aNC h13 S5 hVq (by rw[M0];simp) (by rw[EZ];simp) h16 pA
   simp -implicitDefEqProofs only[aG,MW,g13,g6,eP,m9,aA,seval,sZ]
   have hms:LL.map gO≠[]→b11≠b16:=by rintro h rfl;have:=h16 h;rw[hVq b11 (c9 a02) (by rintro rfl;rw[gD,S5] at hA2;cases hA2),hA2] at this;cases this
   refine⟨gH g14,_,E.1,b16,LL.map gO,_,rfl,fun h=>E.2 (by simpa using h),a5Z LL,⟨7,a50 LL⟩,b11,cY (N+fr) σ',st,rfl,fun _=>ND,G9 _ _,⟨4,D7 _ _⟩,rfl,?_⟩
   rw[←hinv]
   simp only[gJ,kS,q7,jB,mI,aW,aU,aM0 hms,MS hNf]
   rfl
 · have h':left.drop (i+1)= []:=BC (by simp at h;omega)
   have E:=aSV (o6:=.cells [AV.slice (gs2.map eO),AV.mslice b11 0 (N+fr) 4,AV.slice (cs.map gO)]) (o':=.cells [AV.slice (gs2.map eO),AV.mslice b11 0 (N+fr) 4,AV.slice (cs.map gO)]) (b:=0) (L:=[]) (hDs.trans hDW) hA2 ND h6 h62 aNC h13 h13 (fun q h _=>aB.aJ s2 (.cells [AV.slice (gs2.map eO),AV.mslice b11 0 (N+fr) 4,AV.slice (cs.map gO)]) h) (by rw[aB.aP];simp) (by rw[aB.aP];simp) (by simp) pA
   simp -implicitDefEqProofs only[aG,MW,aNF,aB.aP,aA,seval,sZ]
   rw[aH h'] at hinv
   have E1:=E.1
   simp only[a8,c7] at E1
   refine⟨_,E1,0,[],_,rfl,by simp,by simp,⟨0,by simp⟩,b11,cY (N+fr) σ',st,rfl,fun _=>ND,G9 _ _,⟨4,D7 _ _⟩,rfl,?_⟩
   rw[←hinv]
   simp only[gJ,kS,q7,jB,aW,aU,aM0 (l:=[]) (fun h=>absurd rfl h),MS hNf]
   rfl
end Go.AW
