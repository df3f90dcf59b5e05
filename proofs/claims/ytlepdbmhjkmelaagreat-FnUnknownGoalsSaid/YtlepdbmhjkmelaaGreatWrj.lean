import Derived.Test.YtlepdbmhjkmelaaGreatWri
import Derived.Test.YtlepdbmhjkmelaaGreatWrf
set_option linter.unusedSimpArgs false
set_option linter.unusedVariables false
set_option maxRecDepth 100000
namespace Go.AW
open Go.Proofs.Tryz
abbrev PK:=zi a7 (zi lK (zi bN kP))
theorem B3(bs:List Bt)(c p:Nat)(st:aA)(hp:p+5000≤1099511627776)(hR:bZ st c bs p):aD prog 134 [.ptr c 0] st (Dr bs c p 5000 st wM):=by
 refine aD.oE ?_
 refine wF [1000000] 1 func134 ntmps134 rfl rfl ?_
 intro _
 simp only[aB,seval,PK]
 intro b hb
 have hbc:=hR.ne hb
 refine(p5 [3,2,4,1] (by simp) (by simp) bs c p (by omega) _ (hR.aC hbc)).mono ?_
 rintro _ _ ⟨y,hy,rfl,rfl⟩
 obtain⟨n,rfl,hn⟩:∃n:Nat,y=n∧n≤4:=by
  simp only[iG,pE,or_false] at hy
  rcases hy with rfl | rfl | rfl | rfl
  · exact⟨3,rfl,by omega⟩
  · exact⟨2,rfl,by omega⟩
  · exact⟨4,rfl,by omega⟩
  · exact⟨1,rfl,by omega⟩
 have hpw:4 ^ (n+2)≤4096:=by
  have:=wS (n:=4) (by omega) (show n+2≤6 by omega)
  simpa using this
 simp only[aB,seval]
 refine(BZ bs c n (p+1) _ (by omega) (by omega) bZ.new).mono ?_
 rintro _ _ ⟨p1,hp1,XM,rfl,t1,ht1,rfl⟩
 rw[cF]
 simp only[aW,bL,cW (aW _),cR (aR _),aH,hbc,aB,seval,PK]
 refine⟨st.aC c (aV bs p1),?_,p1,by omega,by omega,rfl,t1,ht1,rfl⟩
 intro x
 by_cases e4:x=b<;>by_cases ec:x=c<;>simp_all [aA.aC]
mutual
def Tm.sh(m:Int):Tm→Tm
 | .mk k n s ts=>.mk k (if k=1 then IntKind.i64.wrap (n+m) else n) s (v7 m ts)
def v7(m:Int):List Tm→List Tm
 | []=>[]
 | t::ts=>t.sh m::v7 m ts
end
theorem QD(m:Int):∀ts:List Tm,v7 m ts=ts.map (Tm.sh m)
 | []=>rfl
 | t::ts=>by simp only[v7,b9,QD m ts]
theorem Tm.O2(m k n:Int)(s:ByteArray)(ts:List Tm):(Tm.mk k n s ts).sh m=.mk k (if k=1 then IntKind.i64.wrap (n+m) else n) s (ts.map (Tm.sh m)):=by simp only[Tm.sh,QD]
abbrev iS:=zi a7 (zi bW (zi b8 bN))
theorem TV(m:Int):∀(t:Tm) (st:aA),t.small=true→aD prog 266 [t.av,.int .i64 m] st (fun r st'=>r=(t.sh m).av∧st'=st)
 | .mk k n s ts,st,hsm=>by
  obtain⟨hlen,sJ⟩:=Tm.vK hsm
  have IH:=fun(x:Tm) (hx:x∈ts) st=>TV m x st (sJ x hx)
  refine aD.oD (aD.fin ?_)
  simp only[bG]
  refine wF [1000000,5] 2 func266 ntmps266 rfl rfl ?_
  simp only[cS,AV.fits,dV,aF]
  intro ⟨_,_,_,hl,_⟩
  simp only[aH,aB,↓bD,seval,iS]
  intro b2 hb2 c hc
  have hne:c≠b2:=by rintro rfl;rw[aA.aY] at hc;cases hc
  have hn2:st c=none:=by rw[aA.bK st _ hne] at hc;exact hc
  have g7:b2≠c:=dQ hne
  have hS:(st.aC b2 (.cells [AV.int .i64 0,AV.int .i64 0,AV.str ⟨#[]⟩,AV.fslice []])) b2≠none:=by rw[aA.aY];simp
  refine bC (fun h=>?_) (fun h=>?_)
  · simp only[a9] at h
    simp only[aH,cF,aB,seval,iS]
    refine eV (σ:=Nat) [1000000] [1,2,4,5] ts (fun i b=>(((ts.take i).map (Tm.sh m)).map Tm.av≠[]→(aA.aC (st.aC b2 (.cells [AV.int .i64 0,AV.int .i64 0,AV.str ⟨#[]⟩,AV.fslice []])) c (.cells ([AV.int .i64 k,AV.int .i64 (IntKind.i64.wrap (n+m)),AV.str s]++ [aP 4 b (((ts.take i).map (Tm.sh m)).map Tm.av)]))) b=none)) (fun i b=>[(6,.int .i64 i)]) (fun i b=>dB (st.aC b2 (.cells [AV.int .i64 0,AV.int .i64 0,AV.str ⟨#[]⟩,AV.fslice []])) c b [AV.int .i64 k,AV.int .i64 (IntKind.i64.wrap (n+m)),AV.str s] (((ts.take i).map (Tm.sh m)).map Tm.av)) (by decide +kernel)
     ⟨0,fun h=>absurd rfl h,aL.mk (by simp only[aB,↓bD,seval])⟩ (fun i x b hx hlt bY hdr hinv=>?_) (fun b hge hinv=>?_)
    case refine_1=>
     have hw:=bB (n:=(i:Int)+1)
     have cO:(((ts.take i).map (Tm.sh m)).map Tm.av).length=i:=by simp only[aF,d7];omega
     have htk:(ts.take (i+1)).map (Tm.sh m)=(ts.take i).map (Tm.sh m)++ [(Tm.sh m) x]:=by rw[fE,hx];simp
     have hbo:=c6 hinv
     simp only[aF,bY,aB,seval,iS]
     refine wP [(0,1),(2,1),(4,1),(7,1),(1,2),(3,2),(5,1),(6,2),(8,2),(9,1),(10,0),(11,1),(12,0)] [0,2,4,7,1,3,5,6,8,9,11] mixed ?_
     simp only[cI (av:=Tm.av) cH hx (aO x),aR,aO,hbo,jN,fF,aB,seval,iS]
     refine iU (IH x (dD hx) _) ?_
     simp only[aR,aO,bV,fF,aB,seval,iS]
     refine eJ cH fT fU rfl rfl (eS (aO _) (bL _)) (c7 _) hinv (by simp only[cO,bE,bO];omega) (by simp only[cO,bE,bO];omega) (fun b' hb'=>?_)
     rw[show(((ts.take i).map (Tm.sh m)).map Tm.av)++ [((Tm.sh m) x).av]=((ts.take (i+1)).map (Tm.sh m)).map Tm.av by rw[htk];simp] at hb' ⊢
     obtain⟨g1,g2,g3⟩:=lF hb'
     simp only[dZ,dR] at g1 g3
     simp only[g3,j8,dN,aH,g1,hw,aH,aB,seval,iS]
     exact⟨b',g2,aL.mk (by simp only[aB,seval])⟩
    have hbo:=c6 hinv
    rw[eE] at hinv hbo ⊢
    simp only[aF,hge,aB,seval,iS]
    simp only[hbo,aH,aB,seval,iS]
    have h1:=eU hinv hS g7
    rw[aA.aY] at h1
    simp only[h1,dN,aB,seval]
    obtain⟨h2,h3⟩:=gN (o:=.cells [AV.int .i64 k,AV.int .i64 (IntKind.i64.wrap (n+m)),AV.str s,aP 4 b ((ts.map (Tm.sh m)).map Tm.av)]) hinv hS g7
    refine⟨b,_,_,h2,h3,fC _,⟨4,c7 _⟩,?_,(((aN.refl _).aC hb2).aC hn2).aC hb2⟩
    simp only[gZ,b9,bJ,eR,gK,fJ,←bG]
    rw[Tm.O2,a4 h]
  · simp only[c5] at h
    simp only[aB,seval]
    refine eV (σ:=Nat) [1000000] [1,2,4,5] ts (fun i b=>(((ts.take i).map (Tm.sh m)).map Tm.av≠[]→(aA.aC (st.aC b2 (.cells [AV.int .i64 0,AV.int .i64 0,AV.str ⟨#[]⟩,AV.fslice []])) c (.cells ([AV.int .i64 k,AV.int .i64 (n),AV.str s]++ [aP 4 b (((ts.take i).map (Tm.sh m)).map Tm.av)]))) b=none)) (fun i b=>[(6,.int .i64 i)]) (fun i b=>dB (st.aC b2 (.cells [AV.int .i64 0,AV.int .i64 0,AV.str ⟨#[]⟩,AV.fslice []])) c b [AV.int .i64 k,AV.int .i64 (n),AV.str s] (((ts.take i).map (Tm.sh m)).map Tm.av)) (by decide +kernel)
     ⟨0,fun h=>absurd rfl h,aL.mk (by simp only[aB,↓bD,seval])⟩ (fun i x b hx hlt bY hdr hinv=>?_) (fun b hge hinv=>?_)
    case refine_1=>
     have hw:=bB (n:=(i:Int)+1)
     have cO:(((ts.take i).map (Tm.sh m)).map Tm.av).length=i:=by simp only[aF,d7];omega
     have htk:(ts.take (i+1)).map (Tm.sh m)=(ts.take i).map (Tm.sh m)++ [(Tm.sh m) x]:=by rw[fE,hx];simp
     have hbo:=c6 hinv
     simp only[aF,bY,aB,seval,iS]
     refine wP [(0,1),(2,1),(4,1),(7,1),(1,2),(3,2),(5,1),(6,2),(8,2),(9,1),(10,0),(11,1),(12,0)] [0,2,4,7,1,3,5,6,8,9,11] mixed ?_
     simp only[cI (av:=Tm.av) cH hx (aO x),aR,aO,hbo,jN,fF,aB,seval,iS]
     refine iU (IH x (dD hx) _) ?_
     simp only[aR,aO,bV,fF,aB,seval,iS]
     refine eJ cH fT fU rfl rfl (eS (aO _) (bL _)) (c7 _) hinv (by simp only[cO,bE,bO];omega) (by simp only[cO,bE,bO];omega) (fun b' hb'=>?_)
     rw[show(((ts.take i).map (Tm.sh m)).map Tm.av)++ [((Tm.sh m) x).av]=((ts.take (i+1)).map (Tm.sh m)).map Tm.av by rw[htk];simp] at hb' ⊢
     obtain⟨g1,g2,g3⟩:=lF hb'
     simp only[dZ,dR] at g1 g3
     simp only[g3,j8,dN,aH,g1,hw,aH,aB,seval,iS]
     exact⟨b',g2,aL.mk (by simp only[aB,seval])⟩
    have hbo:=c6 hinv
    rw[eE] at hinv hbo ⊢
    simp only[aF,hge,aB,seval,iS]
    simp only[hbo,aH,aB,seval,iS]
    have h1:=eU hinv hS g7
    rw[aA.aY] at h1
    simp only[h1,dN,aB,seval]
    obtain⟨h2,h3⟩:=gN (o:=.cells [AV.int .i64 k,AV.int .i64 (n),AV.str s,aP 4 b ((ts.map (Tm.sh m)).map Tm.av)]) hinv hS g7
    refine⟨b,_,_,h2,h3,fC _,⟨4,c7 _⟩,?_,(((aN.refl _).aC hb2).aC hn2).aC hb2⟩
    simp only[gZ,b9,bJ,eR,gK,fJ,←bG]
    rw[Tm.O2,aQ h]
termination_by t=>SizeOf.sizeOf t
decreasing_by have:=List.sizeOf_lt_of_mem hx;simp only[Tm.mk.sizeOf_spec];omega
abbrev oW:=zi a7 (zi bW (zi b8 bN))
theorem S6(k n:Int)(s:ByteArray)(ts:List Tm)(st:aA)(hsm:(Tm.mk k n s ts).small=true):aD prog 42 [(Tm.mk k n s ts).av] st (fun r st'=>∃b,r=.agg [.int .i64 k,.int .i64 n,.str s,aP 4 b (ts.map Tm.av)]∧st'=aU st b (ts.map Tm.av)∧(ts.map Tm.av≠[]→st b=none)):=by
 obtain⟨hlen,sJ⟩:=Tm.vK hsm
 have IH:=fun(x:Tm) (hx:x∈ts) st=>oA x st (sJ x hx)
 refine aD.oE ?_
 simp only[bG]
 refine wF [] 1 func42 ntmps42 rfl rfl ?_
 simp only[cS,AV.fits,dV,aF]
 intro ⟨_,_,_,hl,_⟩
 simp only[aB,seval,oW]
 intro b2 hb2 c hc
 have hne:c≠b2:=by rintro rfl;rw[aA.aY] at hc;cases hc
 have hn2:st c=none:=by rw[aA.bK st _ hne] at hc;exact hc
 simp only[aH,aB,seval]
 refine eV (σ:=Nat) [] [1,2,3] ts (fun i b=>(((ts.take i).map (fun y=>y)).map Tm.av≠[]→(aA.aC (st.aC b2 (.cells [AV.int .i64 0,AV.int .i64 0,AV.str ⟨#[]⟩,AV.fslice []])) c (.cells ([AV.int .i64 k,AV.int .i64 n,AV.str s]++ [aP 4 b (((ts.take i).map (fun y=>y)).map Tm.av)]))) b=none)) (fun i b=>[(4,.int .i64 i)]) (fun i b=>dB (st.aC b2 (.cells [AV.int .i64 0,AV.int .i64 0,AV.str ⟨#[]⟩,AV.fslice []])) c b [AV.int .i64 k,AV.int .i64 n,AV.str s] (((ts.take i).map (fun y=>y)).map Tm.av)) (by decide +kernel)
  ⟨0,fun h=>absurd rfl h,aL.mk (by simp only[aB,↓bD,seval])⟩ (fun i x b hx hlt bY hdr hinv=>?_) (fun b hge hinv=>?_)
 case refine_1=>
  have hw:=bB (n:=(i:Int)+1)
  have cO:(((ts.take i).map (fun y=>y)).map Tm.av).length=i:=by simp only[aF,d7];omega
  have htk:(ts.take (i+1)).map (fun y=>y)=(ts.take i).map (fun y=>y)++ [(fun y=>y) x]:=by rw[fE,hx];simp
  have hbo:=c6 hinv
  simp only[aF,bY,aB,seval,oW]
  refine wP [(0,1),(2,1),(4,1),(1,2),(3,2),(5,1),(6,2),(7,2),(8,1),(9,0),(10,1),(11,0)] [0,2,4,1,3,5,6,7,8,10] mixed ?_
  simp only[cI (av:=Tm.av) cH hx (aO x),aR,aO,hbo,jN,fF,aB,seval,oW]
  refine iU (IH x (dD hx) _) ?_
  simp only[aR,aO,bV,fF,aB,seval,oW]
  refine eJ cH fT fU rfl rfl (eS (aO _) (bL _)) (c7 _) hinv (by simp only[cO,bE,bO];omega) (by simp only[cO,bE,bO];omega) (fun b' hb'=>?_)
  rw[show(((ts.take i).map (fun y=>y)).map Tm.av)++ [((fun y=>y) x).av]=((ts.take (i+1)).map (fun y=>y)).map Tm.av by rw[htk];simp] at hb' ⊢
  obtain⟨g1,g2,g3⟩:=lF hb'
  simp only[dZ,dR] at g1 g3
  simp only[g3,j8,dN,aH,g1,hw,aB,seval,oW]
  exact⟨b',g2,aL.mk (by simp only[aB,seval])⟩
 have hbo:=c6 hinv
 rw[eE] at hinv hbo ⊢
 simp only[aF,hge,aB,seval,oW]
 simp only[hbo,aB,seval,oW]
 have g7:b2≠c:=dQ hne
 have hS:(st.aC b2 (.cells [AV.int .i64 0,AV.int .i64 0,AV.str ⟨#[]⟩,AV.fslice []])) b2≠none:=by rw[aA.aY];simp
 have h1:=eU hinv hS g7
 rw[aA.aY] at h1
 simp only[h1,dN,aH,aB,seval]
 obtain⟨h2,h3⟩:=gN (o:=.cells [AV.int .i64 k,AV.int .i64 n,AV.str s,aP 4 b ((ts.map fun y=>y).map Tm.av)]) hinv hS g7
 simp only[dZ,dR] at h2 h3
 rw[h2]
 have D:∀o o' o'',aN (((st.aC b2 o).aC c o').aC b2 o'') st:=fun o o' o''=>(((aN.refl _).aC hb2).aC hn2).aC hb2
 simp only[List.map_id'] at h3 ⊢
 exact⟨_,CS (D _ _ _),b,rfl,rfl,fun h=>(D _ _ _ b).1 (h3 h)⟩
abbrev gD:=zi a7 (zi bW (zi b8 (zi lK (zi bN (zi aAF (zi kP iT))))))
theorem B0(bs:List Bt)(c p:Nat)(t:Tm)(hsm:t.small=true)(st:aA)(hp:p+10≤1099511627776)(hR:bZ st c bs p) :
 aD prog 133 [.ptr c 0,t.av] st (Dr bs c p 10 st (fun r=>∃t:Tm,r=t.av)):=by
 obtain⟨k,n,s,ts⟩:=t
 refine aD.oE (aD.fin ?_)
 refine wF [1000000,5] 2 func133 ntmps133 rfl rfl ?_
 intro _
 simp only[aB,seval,gD]
 intro b4 h4
 have h4c:=hR.ne h4
 have hR':=fun o=>hR.aC (o:=o) h4c
 refine(S6 k n s ts _ hsm).mono ?_
 rintro _ _ ⟨b,rfl,rfl,hb⟩
 simp only[dN,aH,aB,↓bD,seval,gD]
 intro b5 h5
 obtain⟨hn5,hb5⟩:=BC h5
 have h54:b5≠b4:=by rintro rfl;rw[aA.aY] at hn5;cases hn5
 have yT:st b5=none:=by rw[aA.bK _ _ h54] at hn5;exact hn5
 have h5c:b5≠c:=hR.ne yT
 have hW4:∀q,((st.aC b4 (.cells [.int .i64 0,.int .i64 0,.str ⟨#[]⟩,.fslice []])).aC c (aV bs q)) b4=some (.cells [.int .i64 0,.int .i64 0,.str ⟨#[]⟩,.fslice []]):=fun q=>by rw[aA.bK _ _ h4c,aA.aY]
 have hdr:∀q Z Y,aN ((((st.aC b4 (.cells [.int .i64 0,.int .i64 0,.str ⟨#[]⟩,.fslice []])).aC c (aV bs q)).aC b5 Z).aC b4 Y) (st.aC c (aV bs q)):=fun q Z Y x=>by
  by_cases e4:x=b4<;>by_cases ec:x=c<;>by_cases e5:x=b5<;>simp_all [aA.aC]
 have e0:(aU (st.aC b4 (.cells [.int .i64 0,.int .i64 0,.str ⟨#[]⟩,.fslice []])) b (ts.map Tm.av)).aC b5 (.cells [.int .i64 k,.int .i64 n,.str s,aP 4 b (ts.map Tm.av)])=dB (st.aC b4 (.cells [.int .i64 0,.int .i64 0,.str ⟨#[]⟩,.fslice []])) b5 b [.int .i64 k,.int .i64 n,.str s] (ts.map Tm.av):=by
  rw[lZ hb5];try rfl
 have i0:ts.map Tm.av≠[]→((st.aC b4 (.cells [.int .i64 0,.int .i64 0,.str ⟨#[]⟩,.fslice []])).aC b5 (.cells ([.int .i64 k,.int .i64 n,.str s]++ [aP 4 b (ts.map Tm.av)]))) b=none:=fun h=>by
  rw[aA.bK _ _ (dQ (hb5 h))];exact hb h
 have hUc:(st.aC b4 (.cells [.int .i64 0,.int .i64 0,.str ⟨#[]⟩,.fslice []])) c≠none:=by rw[hR' _];simp
 rw[e0]
 have hRk:bZ (dB (st.aC b4 (.cells [.int .i64 0,.int .i64 0,.str ⟨#[]⟩,.fslice []])) b5 b [.int .i64 k,.int .i64 n,.str s] (ts.map Tm.av)) c bs p:=by
  unfold bZ
  rw[eU i0 hUc h5c.symm]
  exact hR' _
 refine(iL bs c p (by omega) 50 (by omega) (by omega) _ hRk).mono ?_
 rintro _ _ ⟨j,hj,rfl,rfl⟩
 obtain⟨e1,i1⟩:=kI (o:=aV bs (p+1)) i0 hUc h5c.symm
 rw[e1]
 have hWc:∀q,((st.aC b4 (.cells [.int .i64 0,.int .i64 0,.str ⟨#[]⟩,.fslice []])).aC c (aV bs q)) c≠none:=fun q=>by rw[aA.aY];simp
 have hRq:∀q (hd l:List AV),(l≠[]→(((st.aC b4 (.cells [.int .i64 0,.int .i64 0,.str ⟨#[]⟩,.fslice []])).aC c (aV bs q)).aC b5 (.cells (hd++ [aP 4 b l]))) b=none)→bZ (dB ((st.aC b4 (.cells [.int .i64 0,.int .i64 0,.str ⟨#[]⟩,.fslice []])).aC c (aV bs q)) b5 b hd l) c bs q:=fun q hd l hi=>by
  unfold bZ
  rw[eU hi (hWc q) h5c.symm,aA.aY]
  try rfl
 clear e0 i0 hRk e1
 simp only[aB,seval]
 refine bC (fun h0=>?_) (fun h0=>?_)
 · simp only[aB,seval,gD]
   refine(p5 [0,4,1,2,3] (by simp) (by simp) bs c (p+1) (by omega) _ (hRq _ _ _ i1)).mono ?_
   rintro _ _ ⟨y,_,rfl,rfl⟩
   obtain⟨e1,i1⟩:=kI (o:=aV bs (p+1+1)) i1 (hWc _) h5c.symm
   rw[cF] at e1 i1
   rw[e1]
   have hbo:=c6 i1
   obtain⟨e2,i1⟩:=sM (hd':=[.int .i64 y,.int .i64 n,.str s]) i1
   simp only[dZ,dR] at e2
   simp only[aH,hbo,aB,seval,gD]
   rw[e2]
   have hbo:=c6 i1
   have h4o:=eU i1 (x:=b4) (by rw[hW4];simp) h54.symm
   rw[hW4] at h4o
   simp only[h4o,dN,aB,seval]
   obtain⟨g5,g6⟩:=gN (o:=.cells [.int .i64 (y),.int .i64 (n),.str (s),aP 4 b ((ts).map Tm.av)]) i1 (show((st.aC b4 (.cells [.int .i64 0,.int .i64 0,.str ⟨#[]⟩,.fslice []])).aC c (aV bs (p+1+1))) b4≠none by rw[hW4];simp) h54.symm
   refine⟨b,_,_,g5,g6,fC _,⟨4,c7 _⟩,st.aC c (aV bs (p+1+1)),hdr _ _ _,p+1+1,by omega,by omega,rfl,.mk (y) (n) (s) (ts),?_⟩
   simp only[gZ,b9,bJ,eR,gK,fJ,bG]
 simp only[aB,seval]
 refine bC (fun h0=>?_) (fun h0=>?_)
 · simp only[aB,seval,gD]
   refine(p5 [26,1000,-1000,-1,1] (by simp) (by simp) bs c (p+1) (by omega) _ (hRq _ _ _ i1)).mono ?_
   rintro _ _ ⟨y,_,rfl,rfl⟩
   obtain⟨e1,i1⟩:=kI (o:=aV bs (p+1+1)) i1 (hWc _) h5c.symm
   rw[cF] at e1 i1
   rw[e1]
   have hbo:=c6 i1
   obtain⟨e2,i1⟩:=sM (hd':=[.int .i64 k,.int .i64 y,.str s]) i1
   simp only[dZ,dR] at e2
   simp only[aH,hbo,aB,seval,gD]
   rw[e2]
   have hbo:=c6 i1
   have h4o:=eU i1 (x:=b4) (by rw[hW4];simp) h54.symm
   rw[hW4] at h4o
   simp only[h4o,dN,aB,seval]
   obtain⟨g5,g6⟩:=gN (o:=.cells [.int .i64 (k),.int .i64 (y),.str (s),aP 4 b ((ts).map Tm.av)]) i1 (show((st.aC b4 (.cells [.int .i64 0,.int .i64 0,.str ⟨#[]⟩,.fslice []])).aC c (aV bs (p+1+1))) b4≠none by rw[hW4];simp) h54.symm
   refine⟨b,_,_,g5,g6,fC _,⟨4,c7 _⟩,st.aC c (aV bs (p+1+1)),hdr _ _ _,p+1+1,by omega,by omega,rfl,.mk (k) (y) (s) (ts),?_⟩
   simp only[gZ,b9,bJ,eR,gK,fJ,bG]
 simp only[aB,seval]
 refine bC (fun h0=>?_) (fun h0=>?_)
 · simp only[aB,seval,gD]
   refine(rV [⟨#[]⟩,⟨#[88]⟩,⟨#[116,111,111,108,111,110,103]⟩,⟨#[195,169]⟩,⟨#[97]⟩] (by simp) (by simp) bs c (p+1) (by omega) _ (hRq _ _ _ i1)).mono ?_
   rintro _ _ ⟨y,_,rfl,rfl⟩
   obtain⟨e1,i1⟩:=kI (o:=aV bs (p+1+1)) i1 (hWc _) h5c.symm
   rw[cF] at e1 i1
   rw[e1]
   have hbo:=c6 i1
   obtain⟨e2,i1⟩:=sM (hd':=[.int .i64 k,.int .i64 n,.str y]) i1
   simp only[dZ,dR] at e2
   simp only[aH,hbo,aB,seval,gD]
   rw[e2]
   have hbo:=c6 i1
   have h4o:=eU i1 (x:=b4) (by rw[hW4];simp) h54.symm
   rw[hW4] at h4o
   simp only[h4o,dN,aB,seval]
   obtain⟨g5,g6⟩:=gN (o:=.cells [.int .i64 (k),.int .i64 (n),.str (y),aP 4 b ((ts).map Tm.av)]) i1 (show((st.aC b4 (.cells [.int .i64 0,.int .i64 0,.str ⟨#[]⟩,.fslice []])).aC c (aV bs (p+1+1))) b4≠none by rw[hW4];simp) h54.symm
   refine⟨b,_,_,g5,g6,fC _,⟨4,c7 _⟩,st.aC c (aV bs (p+1+1)),hdr _ _ _,p+1+1,by omega,by omega,rfl,.mk (k) (n) (y) (ts),?_⟩
   simp only[gZ,b9,bJ,eR,gK,fJ,bG]
 simp only[aB,seval]
 refine bC (fun h0=>?_) (fun h0=>?_)
 · simp only[aB,seval]
   refine fY (σ:=Nat×List Tm) [1000000,5] [4,5,10] (fun x=>(x.2.map Tm.av≠[]→(aA.aC ((st.aC b4 (.cells [.int .i64 0,.int .i64 0,.str ⟨#[]⟩,.fslice []])).aC c (aV bs (p+1))) b5 (.cells ([.int .i64 k,.int .i64 n,.str s]++ [aP 4 x.1 (x.2.map Tm.av)]))) x.1=none)) (fun _=>[]) (fun x=>dB ((st.aC b4 (.cells [.int .i64 0,.int .i64 0,.str ⟨#[]⟩,.fslice []])).aC c (aV bs (p+1))) b5 x.1 [.int .i64 k,.int .i64 n,.str s] (x.2.map Tm.av)) (fun x=>5 - x.2.length) (by decide +kernel) ⟨(b,ts),i1,aL.mk (by simp only[aB,seval])⟩ ?_
   rintro⟨b,acc⟩ i1
   simp only at i1
   have hbo:=c6 i1
   have haL:=tZ (w:=4) (b:=b) (l:=acc.map Tm.av) AN
   simp only[hbo,jN,haL,aF,aB,seval,gD]
   refine bC (fun h1=>?_) (fun h1=>?_)
   · simp only[a9] at h1
     have cO:(acc.map Tm.av).length≤4:=by rw[aF];omega
     simp only[aB,seval]
     refine q9 [(0,1),(1,1),(2,0),(3,1),(4,0),(5,1),(6,2)] [0,1,3,5] (g9.aC b5 (.cells [.int .i64 k,.int .i64 n,.str s,aP 4 b (acc.map Tm.av)])) mixed (by decide +kernel) (by decide +kernel) (by decide +kernel) rfl (iM hbo) ?_
     simp only[jN,aB,seval,gD]
     refine(rU 1 _).to ?_
     simp only[aR,aO,bV,aB,seval,gD]
     refine⟨iM hbo,?_⟩
     refine eJ cH fT fU rfl rfl (eS (aO _) (bL _)) (c7 _) i1 (by simp only[bE,bO];omega) (by simp only[bE,bO];omega) (fun b' hb'=>?_)
     rw[show acc.map Tm.av++ [(Tm.mk 2 1 ⟨#[]⟩ []).av]=(acc++ [Tm.mk 2 1 ⟨#[]⟩ []]).map Tm.av by simp] at hb' ⊢
     obtain⟨g1,g2,g3⟩:=lF hb'
     simp only[dZ,dR] at g1 g3
     simp only[aH,dN,j8,aB,seval,gD]
     refine⟨iM g3,?_⟩
     simp only[g3,g1,aB,seval]
     refine⟨(b',acc++ [Tm.mk 2 1 ⟨#[]⟩ []]),by simp only[dM,bE,bO];omega,g2,aL.mk (by simp only[aB,seval])⟩
   · simp only[aH,hbo,dN,aB,seval,gD]
     have hbo:=c6 i1
     have h4o:=eU i1 (x:=b4) (by rw[hW4];simp) h54.symm
     rw[hW4] at h4o
     simp only[h4o,aB,seval]
     obtain⟨g5,g6⟩:=gN (o:=.cells [.int .i64 (k),.int .i64 (n),.str (s),aP 4 b ((acc).map Tm.av)]) i1 (show((st.aC b4 (.cells [.int .i64 0,.int .i64 0,.str ⟨#[]⟩,.fslice []])).aC c (aV bs (p+1))) b4≠none by rw[hW4];simp) h54.symm
     refine⟨b,_,_,g5,g6,fC _,⟨4,c7 _⟩,st.aC c (aV bs (p+1)),hdr _ _ _,p+1,by omega,by omega,rfl,.mk (k) (n) (s) (acc),?_⟩
     simp only[gZ,b9,bJ,eR,gK,fJ,bG]
 simp only[aB,seval]
 refine bC (fun h0=>?_) (fun h0=>?_)
 · simp only[aB,seval]
   have hW5:∀Z,((st.aC b4 (.cells [.int .i64 0,.int .i64 0,.str ⟨#[]⟩,.fslice []])).aC c (aV bs (p+1))).aC b5 Z b4=some (.cells [.int .i64 0,.int .i64 0,.str ⟨#[]⟩,.fslice []]):=fun Z=>by rw[aA.bK _ _ h54.symm,hW4]
   refine eV (σ:=Tm) [1000000,5] [4,5] (List.range 30) (fun _ _=>True) (fun i _=>[(6,.int .i64 i)]) (fun _ u=>((st.aC b4 (.cells [.int .i64 0,.int .i64 0,.str ⟨#[]⟩,.fslice []])).aC c (aV bs (p+1))).aC b5 (.cells u.av.cells)) (by decide +kernel)
    ⟨.mk k n s ts,trivial,?_⟩ (fun i x u hx hlt bY aB4 _=>?_) (fun u hge _=>?_)
   · rw[bG]
     exact(YC i1 (fC _) ⟨4,c7 _⟩).trans (cN.eO (by simp only[aB,↓bD,seval]))
   · rw[List.length_range] at hlt
     have yR:decide ((i:Int)<30)=true:=by simp;omega
     have hw:=bB (n:=(i:Int)+1)
     simp only[yR,aW,aR,aO,bV,cW (aW _),cR (aR _),aB,seval,gD]
     refine(k8 ⟨#[115]⟩ [u] (by simp) _).to ?_
     simp only[cF,aH,hw,aW,bL,aB,seval,gD]
     exact⟨.mk 3 0 ⟨#[115]⟩ [u],aL.mk (by simp only[aB,seval])⟩
   · have aB5:decide ((29:Int)+1<30)=false:=rfl
     have h4o:=hW5 (.cells u.av.cells)
     simp only[List.length_range,aH,h4o,aW,bL,cW (aW _),cR (aR _),aB,↓bD,seval,gD]
     exact⟨0,[],_,rfl,by simp,by simp,⟨4,by simp⟩,st.aC c (aV bs (p+1)),hdr _ _ _,p+1,by omega,by omega,rfl,u,Tm.M6 u 0⟩
 · simp only[aB,seval,gD]
   have hbo:=c6 i1
   have h4o:=eU i1 (x:=b4) (by rw[hW4];simp) h54.symm
   rw[hW4] at h4o
   simp only[aH,hbo,h4o,dN,aB,seval,gD]
   obtain⟨g5,g6⟩:=gN (o:=.cells [.int .i64 (k),.int .i64 (n),.str (s),aP 4 b ((ts).map Tm.av)]) i1 (show((st.aC b4 (.cells [.int .i64 0,.int .i64 0,.str ⟨#[]⟩,.fslice []])).aC c (aV bs (p+1))) b4≠none by rw[hW4];simp) h54.symm
   refine⟨b,_,_,g5,g6,fC _,⟨4,c7 _⟩,st.aC c (aV bs (p+1)),hdr _ _ _,p+1,by omega,by omega,rfl,.mk (k) (n) (s) (ts),?_⟩
   simp only[gZ,b9,bJ,eR,gK,fJ,bG]
abbrev PH:=zi a7 (zi jI gQ)
theorem SM(l:List Cl)(g:FuncId)(cJ:List AV)(p:Cl→Bool)(st:aA)(hc:∀x∈l,aD prog g ([aX x]++cJ) st (fun r st'=>r=.bool (p x)∧st'=st)) :
 aD prog 136 [.slice (l.map aX),.func g cJ] st (fun r st'=>∃j:Int,r=.int .i64 j∧decide (0≤j)=l.any p∧st'=st):=by
 refine wF [] 2 func136 ntmps136 rfl rfl ?_
 simp only[cS,AV.fits,dV,aF]
 intro ⟨hl,_⟩
 simp only[aF,aB,seval,PH]
 refine eV (σ:=Unit) [] [0,1,7] l (fun i _=>(l.drop i).any p=l.any p) (fun i _=>[(8,.int .i64 i)]) (fun _ _=>st) (by decide +kernel) ⟨(),rfl,aL.mk (by simp only[aB,↓bD,seval])⟩ (fun i x _ hx hlt bY hdr hinv=>?_) (fun _ hge hinv=>?_)
 case refine_2=>
  simp only[hge,aB,seval]
  rw[List.drop_length] at hinv
  exact⟨-1,rfl,by rw[←hinv];try rfl⟩
 rw[hdr,List.any_cons] at hinv
 have hw:=bB (n:=(i:Int)+1)
 simp only[bY,cI (av:=aX) i9 hx (gV x),oB,gV,aB,seval,PH]
 refine(hc x (dD hx)).to ?_
 simp only[aB,seval]
 refine bC (fun h=>?_) (fun h=>?_)
 · simp only[aB,seval]
   exact⟨i,rfl,by rw[←hinv,h];simp⟩
 · rw[h,jZ] at hinv
   simp only[aB,seval]
   exact⟨(),hinv,aL.mk (by simp only[hw,aB,seval])⟩
theorem SE(l:List Cl)(g:FuncId)(cJ:List AV)(p:Cl→Bool)(st:aA)(hc:∀x∈l,aD prog g ([aX x]++cJ) st (fun r st'=>r=.bool (p x)∧st'=st)) :
 aD prog 85 [.slice (l.map aX),.func g cJ] st (fun r st'=>r=.bool (l.any p)∧st'=st):=by
 refine wF [] 2 func85 ntmps85 rfl rfl ?_
 intro _
 simp only[aB,seval]
 refine(SM l g cJ p st hc).mono ?_
 rintro _ _ ⟨j,rfl,hj,rfl⟩
 simp only[hj,aB,seval]
abbrev zY:=zi cC (zi b8 (zi bN gQ))
theorem SW(c:Cl)(st:aA):aD prog 69 [aX c] st (fun r st'=>r=.bool (gI c)∧st'=st):=by
 obtain⟨⟨k,n,s,ts⟩,b⟩:=c
 have hv:=fun st=>xM (.mk k n s ts) st
 have hp:=fun st=>uB k n s ts st
 simp only[bG] at hv hp
 have hg:=fun st=>SU b st
 simp only[dH,gI,mN]
 simp only[zR] at hg
 generalize (Tm.mk k n s ts).valid=v at *
 refine wF [1000000] 1 func69 ntmps69 rfl rfl ?_
 intro _
 simp only[aB,seval,zY]
 refine(hv _).to ?_
 cases v with
 | false=>simp only[c8,aB,seval]
 | true=>
  simp only[i8,dC,aB,seval,zY]
  refine(hp _).to ?_
  cases hpl:gB k s (ts.length:Int) with
  | false=>simp only[c8,aB,seval]
  | true=>
   simp only[i8,dC,aB,seval,zY]
   refine(hg _).to ?_
   simp only[aB,seval]
abbrev ZT:=zi cC gQ
theorem ST(c:Cl)(st:aA):aD prog 86 [aX c] st (fun r st'=>r=.bool (!gI c)∧st'=st):=by
 refine wF [1000000] 1 func86 ntmps86 rfl rfl ?_
 intro _
 simp only[rY,oB,gV,aB,seval,ZT]
 refine(SW c st).to ?_
 simp only[aB,seval]
abbrev ZS:=zi a7 (zi cC jI)
theorem BR(p:List Cl)(st:aA):aD prog 33 [.slice (p.map aX)] st (fun r st'=>r=.bool (fP p)∧st'=st):=by
 refine wF [1000000] 1 func33 ntmps33 rfl rfl ?_
 simp only[cS,AV.fits,dV,aF]
 intro _
 unfold fP
 simp only[aF,aB,seval,ZS]
 refine cM (fun h=>?_) (fun h=>?_)
 · simp only[a9] at h
   rw[show decide (p.length≤20)=true by simp;omega]
   simp only[h,aB,seval]
   refine(SE p _ [] (fun t=> !gI t) st fun x _=>ST x st).to ?_
   simp only[xD,aB,seval]
 · simp only[gG,c5] at h
   rw[show decide (p.length≤20)=false by simp;omega]
   simp only[h,aB,seval]
   rfl
abbrev q0:=zi a7 (zi cC (zi b8 (zi bN gQ)))
theorem CD(c:Cl)(st:aA):aD prog 91 [aX c] st (fun r st'=>r=.bool (gI c)∧st'=st):=by
 obtain⟨⟨k,n,s,ts⟩,l⟩:=c
 have hv:=fun st=>CF (.mk k n s ts) st
 have hp:=fun st=>xQ k n s ts st
 simp only[bG] at hv hp
 simp only[dH,gI,mN]
 generalize (Tm.mk k n s ts).valid=v at *
 refine wF [1000000] 1 func91 ntmps91 rfl rfl ?_
 simp only[cS,AV.fits,dV,aF]
 intro ⟨_,_,_,_,hl,_⟩
 have jB:l.all Tm.goal=true∨l.length>6→(decide ((l.length:Int)≤6)&&v&&gB k s (ts.length:Int))=(v&&gB k s (ts.length:Int)&&(decide (l.length≤6)&&l.all Tm.goal)):=fun h=>by
  by_cases h6:l.length≤6
  · have hg:l.all Tm.goal=true:=h.resolve_right (by omega)
    rw[hg,show decide ((l.length:Int)≤6)=true from dA (by omega),show decide (l.length≤6)=true from dA h6]
    simp
  · rw[show decide ((l.length:Int)≤6)=false from cZ (by omega),show decide (l.length≤6)=false from cZ h6]
    simp
 simp only[aB,seval,q0]
 refine eV (σ:=Unit) [1000000] [1] l (fun i _=>i≤7∧(l.take i).all Tm.goal=true) (fun i _=>[(2,.bool false),(3,.int .i64 i)]) (fun _ _=>st) (by decide +kernel) ⟨(),⟨by omega,by simp⟩,aL.mk (by simp only[aB,↓bD,seval])⟩ (fun i x _ hx hlt bY hdr hinv=>?_) (fun _ hge hinv=>?_)
 · obtain⟨i1,i2⟩:=hinv
   have hw:=bB (n:=(i:Int)+1)
   by_cases h7:i≤6
   · have h7':decide ((i:Int)≤6)=true:=dA (by omega)
     have hat:=cI (av:=Tm.av) cH hx (aO x)
     simp only[bY,aT,i8,aF,h7',hat,aR,aO,aB,seval,q0]
     refine(UE x st).to ?_
     simp only[aB,seval]
     refine bC (fun h2=>?_) (fun h2=>?_)
     · simp only[j0] at h2
       simp only[aB,seval]
       have:l.all Tm.goal=false:=m6 hx h2
       rw[this];simp
     · simp only[pA] at h2
       simp only[aB,seval]
       refine⟨(),⟨by omega,?_⟩,aL.mk (by simp only[hw,aB,seval])⟩
       rw[fE,hx,List.all_append,i2]
       simp [h2]
   · have h7':decide ((i:Int)≤6)=false:=cZ (by omega)
     have h8:decide ((l.length:Int)≤6)=false:=cZ (by omega)
     rw[←jB (.inr (by omega)),h8]
     simp only[bY,aT,i8,h8,c8,aF,h7',aB,seval,q0]
 · obtain⟨i1,i2⟩:=hinv
   rw[eE] at i2
   rw[←jB (.inl i2)]
   cases h8:decide ((l.length:Int)≤6) with
   | false=>
    simp only[hge,aF,h8,c8,aB,seval,q0]
   | true=>
    simp only[hge,i8,aF,h8,dC,aB,seval,q0]
    refine(hv _).to ?_
    cases v with
    | false=>simp only[c8,aB,seval]
    | true=>
     simp only[i8,dC,aB,seval,q0]
     refine(hp _).to ?_
     simp only[aB,seval]
abbrev zX:=zi a7 (zi cC (zi jI gQ))
theorem UG(l:List Cl)(st:aA):aD prog 39 [.slice (l.map aX)] st (fun r st'=>r=.bool (fP l)∧st'=st):=by
 refine wF [1000000] 1 func39 ntmps39 rfl rfl ?_
 simp only[cS,AV.fits,dV,aF]
 intro ⟨hl,_⟩
 simp only[aB,seval]
 refine eV (σ:=Unit) [1000000] [0] l (fun i _=>i≤21∧(l.take i).all gI=true) (fun i _=>[(2,.bool false),(3,.int .i64 i)]) (fun _ _=>st) (by decide +kernel) ⟨(),⟨by omega,by simp⟩,aL.mk (by simp only[aB,↓bD,seval])⟩ (fun i x _ hx hlt bY hdr hinv=>?_) (fun _ hge hinv=>?_)
 · obtain⟨i1,i2⟩:=hinv
   have hw:=bB (n:=(i:Int)+1)
   by_cases h7:i≤20
   · have h7':decide ((i:Int)≤20)=true:=dA (by omega)
     have hat:=cI (av:=aX) i9 hx (gV x)
     simp only[bY,aT,i8,aF,h7',hat,oB,gV,aB,seval,zX]
     refine(CD x st).to ?_
     simp only[aB,seval]
     refine bC (fun h2=>?_) (fun h2=>?_)
     · simp only[j0] at h2
       simp only[aB,seval]
       have:l.all gI=false:=m6 hx h2
       simp only[fP,this,mS]
     · simp only[pA] at h2
       simp only[aB,seval]
       refine⟨(),⟨by omega,?_⟩,aL.mk (by simp only[hw,aB,seval])⟩
       rw[fE,hx,List.all_append,i2]
       simp [h2]
   · have h7':decide ((i:Int)≤20)=false:=cZ (by omega)
     have h8:decide ((l.length:Int)≤20)=false:=cZ (by omega)
     have h9:decide (l.length≤20)=false:=cZ (by omega)
     simp only[bY,aT,i8,aF,h7',h8,fP,h9,c8,aB,seval,zX]
 · obtain⟨i1,i2⟩:=hinv
   rw[eE] at i2
   simp only[hge,aF,aB,seval,zX]
   simp only[fP,i2,Bool.and_true,AV.bool.injEq,qA]
   omega
end Go.AW
namespace Go.AW
theorem bT.fz{h:aM}{st:aA}{b:Nat}{es:List AV}(S:bF h st)(hb:st b=some (.cells (es.flatMap AV.cells)))(hj:∀e∈es,e.bA=false)(hE:eL es):∀ {us:List AV} {vs:List Value},bT h st us vs→bT h (st.erase b) (gA b es us) vs
 | [],vs,x=>by simp only[bT] at x;simp [gA,bT,x]
 | a::us,vs,x=>by
  simp only[bT] at x
  obtain⟨v,r,rfl,x1,x2⟩:=x
  simp only[gA,bT]
  exact⟨v,r,rfl,x1.fz S hb hj hE,bT.fz S hb hj hE x2⟩
theorem aS.unerase{h h':aM}{st st':aA}{b:Nat}(x:aS h (st.erase b) h' st'):aS h st h' st':=
 ⟨x.size,fun c hc e=>x.cG c hc (aA.U7 st e),x.shape⟩
theorem aD.WX{P:Program}{g:FuncId}{args:List AV}{st:aA}{Q:AV→aA→Prop}(b:Nat)(es:List AV)(hb:st b=some (.cells (es.flatMap AV.cells)))(hj:∀e∈es,e.bA=false)(hE:eL es)(x:aD P g (gA b es args) (st.erase b) Q):aD P g args st Q:=
 ⟨x.1,fun w vs S V=>(x.2 w vs ((d9 st b).vL S) (V.fz S hb hj hE)).mono fun _ _ ⟨v,r,st',e,a,b',c,d,q⟩=>⟨v,r,st',e,a,b',c.unerase,d,q⟩⟩
def Lit(st:aA)(w:Nat)(l:List AV)(q:AV)(s:aA):Prop:=(q=.fslice l∧s=st)∨∃b,st b=none∧q=.mslice b 0 l.length w∧s=st.aC b (.cells (l.flatMap AV.cells))
end Go.AW
namespace Go.AW
open Go.Proofs.Tryz
def nv(i:Nat):AV:=.int .i64 (i:Int)
abbrev aCA:=zi a7 (zi b8 (zi bN (zi aAD aAE)))
def jA(p:List Cl)(t:Tm)(i:Nat):Bool:=match p[i]? with
 | some c=>NM c t
 | none=>false
theorem NA(p:List Cl)(t:Tm):kC p t=(List.range p.length).filter (jA p t):=rfl
theorem NC(p:List Cl)(t:Tm)(i:Nat):(List.range (i+1)).filter (jA p t)=(List.range i).filter (jA p t)++(if jA p t i=true then[i] else[]):=by
 rw[List.range_succ,List.filter_append]
 congr 1
 by_cases h:jA p t i=true<;>simp [h]
theorem NB(p:List Cl)(t:Tm)(i:Nat):((List.range i).filter (jA p t)).length≤i:=by
 have:=wO (jA p t) (List.range i)
 rw[List.length_range] at this
 exact this
theorem OD(l:List Nat):∀e∈l.map nv,e.width=1:=by intro e h;simp only[gR] at h;obtain⟨t,_,rfl⟩:=h;rfl
abbrev q5:=zi a7 (zi bW (zi jI (zi b8 (zi lK (zi bN gQ)))))
theorem TY(p:List Cl)(t:Tm)(hp:p.length≤1048576)(st:aA):aD prog 41 [.slice (p.map aX),t.av] st (fun r st'=>r=.slice ((kC p t).map nv)∧st'=st):=by
 rw[NA]
 refine aD.done ?_
 obtain⟨tk,tn,ts',tts⟩:=t
 simp only[bG]
 refine wF [1000000] 2 func41 ntmps41 rfl rfl ?_
 intro _
 simp only[aB,seval,q5]
 refine AQ (σ:=Unit) [1000000] [0,3,4] p 1 5 (fun i _=>((List.range i).filter (jA p (.mk tk tn ts' tts))).map nv) (fun _ _=>True) (fun i _=>[(6,.int .i64 i)]) (fun _ _=>st) (fun i _ _ e he=>by simp only[gR] at he;obtain⟨t,_,rfl⟩:=he;exact⟨rfl,rfl⟩) (by decide +kernel) ⟨(),0,trivial,fun h=>absurd rfl h,aL.mk (by simp only[i7,List.range_zero,List.filter_nil,bJ,aB,↓bD,seval])⟩ (fun i x s b hx hlt bY hdr hinv hb=>?_) (fun s b hge hinv=>?_)
 case refine_2=>
  simp only[hge,eR,nE,r7,M8,oG,aF,aB,seval,q5]
  exact⟨rfl,aN.refl _⟩
 have hw:=bB (n:=(i:Int)+1)
 have hst:=NC p (.mk tk tn ts' tts) i
 have hln:=NB p (.mk tk tn ts' tts) i
 have hat:=cI (av:=aX) (P:=prog) i9 hx (gV x)
 obtain⟨⟨k,n,s',ts⟩,bd⟩:=x
 rw[dH] at hat
 have hP:jA p (.mk tk tn ts' tts) i=(decide (s'=ts')&&decide ((ts.length:Int)=(tts.length:Int))):=by unfold jA;rw[hx];try rfl
 rw[hP] at hst
 simp only[bY,aF,aB,seval,q5]
 refine wP [(0,1),(1,1),(2,1),(3,1),(4,1),(6,1),(5,2),(7,2),(8,1),(9,1),(10,1),(11,1),(12,1),(13,1),(14,1),(17,1),(15,2),(16,1),(18,2),(19,1),(20,1),(21,1)] [0,1,2,3,4,6,5,7,8,9,10,11,12,13,14,17,15,16,18,19,20,21] mixed ?_
 simp only[hat,aB,seval,q5]
 refine cM (fun h=>?_) (fun h=>?_)
 case refine_2=>
  have h':(decide (s'=ts')&&decide ((ts.length:Int)=(tts.length:Int)))=false:=by simp at h;simp [h]
  rw[h',aQ (by simp),iX] at hst
  rw[←hst] at hb ⊢
  simp only[h,hw,aB,seval]
  exact⟨(),b,hb,aL.mk (by simp only[aB,seval])⟩
 have h1:decide (s'=ts')=true:=by simpa using h
 rw[h1,dC] at hst
 simp only[h,aF,hat,aB,seval,q5]
 refine bC (fun h2=>?_) (fun h2=>?_)
 · rw[a4 h2] at hst
   simp only[aB,seval,q5]
   refine eJ uJ yB yC rfl rfl (eS rfl rfl) (OD _) hb (by simp only[aF,bE,bO];omega) (by simp only[aF,bE,bO];omega) (fun b' hb'=>?_)
   rw[show ∀l:List Nat,l.map nv++ [AV.int .i64 (i:Int)]=(l++ [i]).map nv from fun l=>by simp [nv],←hst] at hb' ⊢
   simp only[hw,aB,seval]
   exact⟨(),b',hb',aL.mk (by simp only[aB,seval])⟩
 · rw[aQ (by simp [h2]),iX] at hst
   rw[←hst] at hb ⊢
   simp only[hw,aB,seval]
   exact⟨(),b,hb,aL.mk (by simp only[aB,seval])⟩


abbrev Z5:=zi bW (zi b8 (zi bN vX))
theorem xR(k n:Int)(s:ByteArray)(ts:List Tm)(st:aA):aD prog 36 [(Tm.mk k n s ts).av] st (fun r st'=>r=.agg [.str s,.int .i64 (ts.length:Int)]∧st'=st):=by
 refine aD.done ?_
 simp only[bG]
 refine wF [1000000] 1 func36 ntmps36 rfl rfl ?_
 intro _
 simp only[aH,aF,aB,seval,Z5]
 intro b2 h2
 exact⟨by simp only[iE,gP,iF,b9,bJ],(aN.refl _).aC h2⟩
abbrev s7:=zi a7 (zi jI (zi lK (zi bN (zi gQ vX))))
theorem BP(p:List Cl)(t:Tm)(hp:p.length≤1048576)(st:aA):aD prog 35 [.slice (p.map aX),.agg [.str t.s,.int .i64 (t.ts.length:Int)]] st (fun r st'=>r=.slice ((kC p t).map nv)∧st'=st):=by
 rw[NA]
 refine aD.done ?_
 obtain⟨tk,tn,ts',tts⟩:=t
 simp only[Tm.s,Tm.ts]
 refine wF [1000000] 2 func35 ntmps35 rfl rfl ?_
 intro _
 simp only[aF,aB,seval,s7]
 refine AQ (σ:=Unit) [1000000] [3,4,8,9] p 1 5 (fun i _=>((List.range i).filter (jA p (.mk tk tn ts' tts))).map nv) (fun _ _=>True) (fun i _=>[(10,.int .i64 i)]) (fun _ _=>st) (fun i _ _ e he=>by simp only[gR] at he;obtain⟨t,_,rfl⟩:=he;exact⟨rfl,rfl⟩) (by decide +kernel) ⟨(),0,trivial,fun h=>absurd rfl h,aL.mk (by simp only[i7,List.range_zero,List.filter_nil,bJ,aB,↓bD,seval])⟩ (fun i x _ b hx hlt bY hdr hinv hb=>?_) (fun _ b hge hinv=>?_)
 case refine_2=>
  simp only[hge,eR,nE,r7,M8,oG,aB,seval]
  exact⟨rfl,aN.refl _⟩
 have hw:=bB (n:=(i:Int)+1)
 have hst:=NC p (.mk tk tn ts' tts) i
 have hln:=NB p (.mk tk tn ts' tts) i
 have hat:=cI (av:=aX) (P:=prog) i9 hx (gV x)
 obtain⟨⟨k,n,s',ts⟩,bd⟩:=x
 rw[dH] at hat
 have hP:jA p (.mk tk tn ts' tts) i=(decide (s'=ts')&&decide ((ts.length:Int)=(tts.length:Int))):=by unfold jA;rw[hx];try rfl
 rw[hP] at hst
 have hpr:=fun st=>xR k n s' ts st
 have XA:cA prog .eql 72 (.agg [.str s',.int .i64 (ts.length:Int)]) (.agg [.str ts',.int .i64 (tts.length:Int)])=some (.bool (decide (s'=ts')&&decide ((ts.length:Int)=(tts.length:Int)))):=by
  have h:uK prog 72=true:=by kernel_rfl
  simp only[cA,h,and_self,fA]
 simp only[bG] at hpr
 simp only[bY,hat,aB,↓bD,seval,s7]
 refine wP [(0,1),(1,2),(2,2),(3,2),(4,1)] [0,1,2,3,4] mixed ?_
 simp only[aB,seval,s7]
 refine iU (hpr _) ?_
 simp only[XA,aB,seval,s7]
 refine bC (fun h2=>?_) (fun h2=>?_)
 · rw[a4 h2] at hst
   simp only[aB,seval,s7]
   refine eJ uJ yB yC rfl rfl (eS rfl rfl) (OD _) hb (by simp only[aF,bE,bO];omega) (by simp only[aF,bE,bO];omega) (fun b' hb'=>?_)
   rw[show ∀l:List Nat,l.map nv++ [AV.int .i64 (i:Int)]=(l++ [i]).map nv from fun l=>by simp [nv],←hst] at hb' ⊢
   simp only[hw,aB,seval]
   exact⟨(),b',hb',aL.mk (by simp only[aB,seval])⟩
 · rw[aQ (by rw[h2];simp),iX] at hst
   rw[←hst] at hb ⊢
   simp only[hw,aB,seval]
   exact⟨(),b,hb,aL.mk (by simp only[aB,seval])⟩
def lM(p:List Cl)(g:Tm):Bool:=mN g&&(kC p g).isEmpty
def dY(p:List Cl)(b:List Tm):List Tm:=b.filter (lM p)
def cP(p q:List Cl):List Tm:=q.flatMap fun c=>dY p c.2
def jK(p:List Cl):List Tm:=if fP p then cP p p else[]
theorem QN(p:List Cl)(l:List Tm)(g:Tm):dY p (l++ [g])=dY p l++(if lM p g then[g] else[]):=by
 unfold dY
 rw[List.filter_append]
 congr 1
 cases h:lM p g<;>simp [h]
theorem QO(p q:List Cl)(c:Cl):cP p (q++ [c])=cP p q++dY p c.2:=by simp [cP]
theorem wD(p:List Cl):∀q:List Cl,(∀c∈q,c.2.length≤6)→(cP p q).length≤6*q.length
 | [],_=>by simp [cP]
 | c::q,hb=>by
  have h1:=wD p q (fun x hx=>hb x (by simp [hx]))
  have h2:(dY p c.2).length≤c.2.length:=wO _ _
  have h3:=hb c (by simp)
  simp only[cP,tQ,dM,bE] at h1 ⊢
  omega
theorem aAQ{p:List Cl}{g:Tm}(h:g∈jK p):fP p=true∧(∃c∈p,g∈c.2)∧mN g=true∧kC p g= []:=by
 unfold jK at h
 split at h
 · rename_i hp
   simp only[cP,dY,List.mem_flatMap,List.mem_filter,lM,bX,List.isEmpty_iff] at h
   obtain⟨c,hc,hg,h1,h2⟩:=h
   exact⟨hp,⟨c,hc,hg⟩,h1,h2⟩
 · cases h
theorem tH{p:List Cl}(h:fP p=true):p.length≤20∧∀c∈p,c.2.length≤6∧∀g∈c.2,g.goal=true:=by
 simp only[fP,bX,a9,fD] at h
 refine⟨by omega,fun c hc=>?_⟩
 have h2:=h.2 c hc
 simp only[gI,bX,a9,fD] at h2
 exact h2.2
theorem QP{p:List Cl}{i:Nat}(h:fP p=false→i=0)(hi:p.length≤i):cP p p=jK p:=by
 cases hok:fP p with
 | true=>simp [jK,hok]
 | false=>
  have:=h hok
  subst this
  have:p= []:=n0 (by omega)
  subst this
  rw[jK]
  split<;>rfl
theorem QQ{p:List Cl}(h:fP p=false):jK p= []:=by simp [jK,h]
abbrev mQ:=zi a7 (zi jI (zi b8 (zi lK (zi bN gQ))))
theorem UH(p:List Cl)(st:aA):aD prog 9 [.slice (p.map aX)] st (fun r st'=>r=.slice ((jK p).map Tm.av)∧st'=st):=by
 have hpv:=fun s=>UG p s
 refine aD.fin ?_
 refine wF [1000000] 1 func9 ntmps9 rfl rfl ?_
 simp only[cS,AV.fits,dV,aF]
 intro ⟨hl,_⟩
 simp only[aB,seval,mQ]
 refine eV (σ:=Nat) [1000000] [0,2] p (fun i b=>(fP p=false→i=0)∧((cP p (p.take i)).map Tm.av≠[]→st b=none)) (fun i b=>[(3,aP 4 b ((cP p (p.take i)).map Tm.av)),(4,.int .i64 i)]) (fun i b=>aU st b ((cP p (p.take i)).map Tm.av)) (by decide +kernel) ⟨0,⟨fun _=>rfl,fun h=>absurd rfl h⟩,aL.mk (by simp only[i7,iY,cP,List.flatMap_nil,bJ,aB,↓bD,seval])⟩ (fun i x b hx hlt bY hdr hinv=>?_) (fun b hge hinv=>?_)
 case refine_2=>
  have hu:=QP hinv.1 (c9 _)
  rw[eE,hu] at hinv ⊢
  simp only[hge,aF,aB,seval,mQ]
  exact⟨b,_,st,rfl,hinv.2,fC _,⟨4,c7 _⟩,fJ,rfl⟩
 obtain⟨hi0,hb⟩:=hinv
 have hw:=bB (n:=(i:Int)+1)
 have hat:=cI (av:=aX) (P:=prog) i9 hx (gV x)
 simp only[bY,aT,aF,aB,seval,mQ]
 refine(hpv _).to ?_
 cases hok:fP p with
 | false=>
  have:=hi0 hok
  subst this
  rw[QQ hok]
  simp only[iY,cP,List.flatMap_nil,bJ,i7,pU]
  simp only[aB,↓bD,seval]
  exact⟨b,[],st,rfl,fun h=>absurd rfl h,by simp,⟨4,by simp⟩,rfl,rfl⟩
 | true=>
  obtain⟨NT,hcl⟩:=tH hok
  obtain⟨hb6,hgo⟩:=hcl x (dD hx)
  have htk:p.take (i+1)=p.take i++ [x]:=by rw[fE,hx];try rfl
  have hLi:(cP p (p.take i)).length≤6*20:=by
   have:=wD p (p.take i) (fun c hc=>(hcl c (j3 hc)).1)
   have h2:(p.take i).length≤20:=by rw[d7];omega
   omega
  obtain⟨⟨k,n,s,ks⟩,bd⟩:=x
  rw[dH] at hat
  simp only at hb6 hgo
  have hb0:(cP p (p.take i)++dY p (bd.take 0)).map Tm.av=(cP p (p.take i)).map Tm.av:=by simp [dY]
  simp only[aB,seval]
  refine eV (σ:=Nat) [1000000] [0,2,4,8,9,10,11,12,13,14,15] bd (fun j b=>((cP p (p.take i)++dY p (bd.take j)).map Tm.av≠[]→st b=none)) (fun j b=>[(3,aP 4 b ((cP p (p.take i)++dY p (bd.take j)).map Tm.av)),(5,.int .i64 j)]) (fun j b=>aU st b ((cP p (p.take i)++dY p (bd.take j)).map Tm.av)) (by decide +kernel) ⟨b,by rw[hb0];exact hb,by rw[hb0];exact aL.mk (by simp only[aB,↓bD,seval])⟩ (fun j y b hy yR yS W8 hinv=>?_) (fun b yP hinv=>?_)
  case refine_2=>
   rw[eE] at hinv ⊢
   rw[←QO p (p.take i) (.mk k n s ks,bd),←htk] at hinv ⊢
   simp only[yP,aF,hw,hat,aB,seval,mQ]
   refine⟨b,?_,aL.mk (by simp only[aB,seval])⟩
   first | exact⟨by simp,hinv⟩ | exact hinv
  have hw2:=bB (n:=(j:Int)+1)
  have sB:=cI (av:=Tm.av) (P:=prog) cH hy (aO y)
  have hys:=Tm.QS (Tm.uP (hgo y (dD hy)))
  have yZ:bd.take (j+1)=bd.take j++ [y]:=by rw[fE,hy];try rfl
  have hcp:=fun s=>oA y s hys
  have hfo:=fun s=>TY p y (by omega) s
  have hst:cP p (p.take i)++dY p (bd.take (j+1))=(cP p (p.take i)++dY p (bd.take j))++(if lM p y then[y] else[]):=by rw[yZ,QN,List.append_assoc]
  have hlj:(cP p (p.take i)++dY p (bd.take j)).length≤1000:=by
   have h2:(dY p (bd.take j)).length≤(bd.take j).length:=wO _ _
   rw[d7] at h2
   rw[dM];omega
  have hG:lM p y=(mN y&&decide (((kC p y).length:Int)=0)):=by
   unfold lM
   congr 1
   cases kC p y with
   | nil=>rfl
   | cons a l=>simp;omega
  generalize cP p (p.take i)++dY p (bd.take j)=acc at *
  obtain⟨yk,yn,ys,yts⟩:=y
  have hpl:=fun s=>xQ yk yn ys yts s
  rw[show mN (.mk yk yn ys yts)=gB yk ys (yts.length:Int) from rfl] at hG
  simp only[bG] at sB hcp hfo hpl
  simp only[yS,aT,aF,hat,sB,aB,↓bD,seval,mQ]
  refine(hpl _).to ?_
  cases hpg:gB yk ys (yts.length:Int) with
  | false=>
   rw[hG,hpg,c8,aQ (by simp),iX] at hst
   rw[←hst] at hinv ⊢
   simp only[hw2,aB,seval]
   exact⟨b,hinv,aL.mk (by simp only[aB,seval])⟩
  | true=>
   rw[hG,hpg,dC] at hst
   simp only[aB,seval,mQ]
   refine(hfo _).to ?_
   simp only[aF,aB,seval,mQ]
   refine bC (fun h0=>?_) (fun h0=>?_)
   · rw[a4 h0] at hst
     simp only[aB,seval,mQ]
     refine(hcp _).to ?_
     simp only[aB,seval,mQ]
     refine eJ (xs:=[.agg [.int .i64 yk,.int .i64 yn,.str ys,.slice (yts.map Tm.av)]]) cH fT fU rfl rfl (eS rfl rfl) (c7 _) hinv (by simp only[aF,bE,bO];omega) (by simp only[aF,bE,bO];omega) (fun b' hb'=>?_)
     rw[show acc.map Tm.av++ [.agg [.int .i64 yk,.int .i64 yn,.str ys,.slice (yts.map Tm.av)]]=(acc++ [Tm.mk yk yn ys yts]).map Tm.av by simp [bG],←hst] at hb' ⊢
     simp only[hw2,aB,seval]
     exact⟨b',hb',aL.mk (by simp only[aB,seval])⟩
   · rw[aQ (by rw[h0];simp),iX] at hst
     rw[←hst] at hinv ⊢
     simp only[hw2,aB,seval]
     exact⟨b,hinv,aL.mk (by simp only[aB,seval])⟩
abbrev oX:=zi a7 (zi cC (zi jI (zi b8 (zi lK (zi bN (zi gQ vX))))))
theorem S0(p:List Cl)(st:aA):aD prog 7 [.slice (p.map aX)] st (fun r st'=>r=.slice ((jK p).map Tm.av)∧st'=st):=by
 have hpv:=fun s=>BR p s
 refine aD.fin ?_
 refine wF [1000000] 1 func7 ntmps7 rfl rfl ?_
 simp only[cS,AV.fits,dV,aF]
 intro ⟨hl,_⟩
 simp only[aB,seval]
 refine(hpv _).to ?_
 cases hok:fP p with
 | false=>
  rw[QQ hok]
  simp only[fZ,aB,seval]
  exact⟨0,[],st,rfl,fun h=>absurd rfl h,by simp,⟨4,by simp⟩,rfl,rfl⟩
 | true=>
 obtain⟨NT,hcl⟩:=tH hok
 simp only[gG,aF,aB,seval,oX]
 refine eV (σ:=Nat) [1000000] [0,2,11,12] p (fun i b=>(fP p=false→i=0)∧((cP p (p.take i)).map Tm.av≠[]→st b=none)) (fun i b=>[(3,aP 4 b ((cP p (p.take i)).map Tm.av)),(13,.int .i64 i)]) (fun i b=>aU st b ((cP p (p.take i)).map Tm.av)) (by decide +kernel) ⟨0,⟨fun _=>rfl,fun h=>absurd rfl h⟩,aL.mk (by simp only[i7,iY,cP,List.flatMap_nil,bJ,aB,↓bD,seval])⟩ (fun i x b hx hlt bY hdr hinv=>?_) (fun b hge hinv=>?_)
 case refine_2=>
  have hu:=QP hinv.1 (c9 _)
  rw[eE,hu] at hinv ⊢
  simp only[hge,aB,seval]
  exact⟨b,_,st,rfl,hinv.2,fC _,⟨4,c7 _⟩,fJ,rfl⟩
 obtain⟨hi0,hb⟩:=hinv
 have hw:=bB (n:=(i:Int)+1)
 have hat:=cI (av:=aX) (P:=prog) i9 hx (gV x)
 obtain⟨hb6,hgo⟩:=hcl x (dD hx)
 have htk:p.take (i+1)=p.take i++ [x]:=by rw[fE,hx];try rfl
 have hLi:(cP p (p.take i)).length≤6*20:=by
  have:=wD p (p.take i) (fun c hc=>(hcl c (j3 hc)).1)
  have h2:(p.take i).length≤20:=by rw[d7];omega
  omega
 have hxw:=gV x
 have hxa:=oB x
 have hxj:=rY x
 obtain⟨⟨k,n,s,ks⟩,bd⟩:=x
 rw[dH] at hat
 simp only at hb6 hgo
 have hb0:(cP p (p.take i)++dY p (bd.take 0)).map Tm.av=(cP p (p.take i)).map Tm.av:=by simp [dY]
 simp only[bY,aT,aF,hat,aB,↓bD,seval,oX]
 refine eV (σ:=Nat) [1000000] [0,2,5,11,12,13,14,15,16,17,18,19] bd (fun j b=>((cP p (p.take i)++dY p (bd.take j)).map Tm.av≠[]→st b=none)) (fun j b=>[(3,aP 4 b ((cP p (p.take i)++dY p (bd.take j)).map Tm.av)),(20,.int .i64 j)]) (fun j b=>aU st b ((cP p (p.take i)++dY p (bd.take j)).map Tm.av)) (by decide +kernel) ⟨b,by rw[hb0];exact hb,by rw[hb0];exact aL.mk (by simp only[aB,↓bD,seval])⟩ (fun j y b hy yR yS W8 hinv=>?_) (fun b yP hinv=>?_)
 case refine_2=>
  rw[eE] at hinv ⊢
  rw[←QO p (p.take i) (.mk k n s ks,bd),←htk] at hinv ⊢
  simp only[yP,hw,aB,seval]
  refine⟨b,?_,aL.mk (by simp only[aB,seval])⟩
  first | exact⟨by simp [hok],hinv⟩ | exact hinv
 have hw2:=bB (n:=(j:Int)+1)
 have sB:=cI (av:=Tm.av) (P:=prog) cH hy (aO y)
 have hys:=Tm.QS (Tm.uP (hgo y (dD hy)))
 have yZ:bd.take (j+1)=bd.take j++ [y]:=by rw[fE,hy];try rfl
 have hcp:=fun s=>(OE y s hys).made
 have hpr:=fun s=>xR y.k y.n y.s y.ts s
 have hfo:=fun s=>BP p y (by omega) s
 have hst:cP p (p.take i)++dY p (bd.take (j+1))=(cP p (p.take i)++dY p (bd.take j))++(if lM p y then[y] else[]):=by rw[yZ,QN,List.append_assoc]
 have hlj:(cP p (p.take i)++dY p (bd.take j)).length≤1000:=by
  have h2:(dY p (bd.take j)).length≤(bd.take j).length:=wO _ _
  rw[d7] at h2
  rw[dM];omega
 have hG:lM p y=(mN y&&decide (((kC p y).length:Int)=0)):=by
  unfold lM
  congr 1
  cases kC p y with
  | nil=>rfl
  | cons a l=>simp;omega
 generalize cP p (p.take i)++dY p (bd.take j)=acc at *
 obtain⟨yk,yn,ys,yts⟩:=y
 have hpl:=fun s=>uB yk yn ys yts s
 rw[show mN (.mk yk yn ys yts)=gB yk ys (yts.length:Int) from rfl] at hG
 simp only[bG,Tm.k,Tm.n,Tm.s,Tm.ts] at sB hcp hfo hpl hpr
 simp only[yS,aT,sB,aB,↓bD,seval,oX]
 refine(hpl _).to ?_
 cases hpg:gB yk ys (yts.length:Int) with
 | false=>
  rw[hG,hpg,c8,aQ (by simp),iX] at hst
  rw[←hst] at hinv ⊢
  simp only[hw2,aB,seval]
  exact⟨b,hinv,aL.mk (by simp only[aB,seval])⟩
 | true=>
  rw[hG,hpg,dC] at hst
  simp only[aB,seval,oX]
  refine(hpr _).to ?_
  simp only[aB,seval]
  refine(hfo _).to ?_
  simp only[aF,aB,seval,oX]
  refine bC (fun h0=>?_) (fun h0=>?_)
  · rw[a4 h0] at hst
    simp only[aB,seval,oX]
    refine(hcp _).to ?_
    simp only[aB,seval,oX]
    refine eJ (xs:=[.agg [.int .i64 yk,.int .i64 yn,.str ys,.slice (yts.map Tm.av)]]) cH fT fU rfl rfl (eS rfl rfl) (c7 _) hinv (by simp only[aF,bE,bO];omega) (by simp only[aF,bE,bO];omega) (fun b' hb'=>?_)
    rw[show acc.map Tm.av++ [.agg [.int .i64 yk,.int .i64 yn,.str ys,.slice (yts.map Tm.av)]]=(acc++ [Tm.mk yk yn ys yts]).map Tm.av by simp [bG],←hst] at hb' ⊢
    simp only[hw2,aB,seval]
    exact⟨b',hb',aL.mk (by simp only[aB,seval])⟩
  · rw[aQ (by rw[h0];simp),iX] at hst
    rw[←hst] at hinv ⊢
    simp only[hw2,aB,seval]
    exact⟨b,hinv,aL.mk (by simp only[aB,seval])⟩
def YW(t:Tm):Bool:=gB t.k t.s (t.ts.length:Int)
def uG(p:List Cl)(g:Tm):List Nat:=if(fP p&&(g.valid&&YW g))=true then kC p g else[]
abbrev vR:=zi cC (zi jI (zi lK (zi bN vX)))
theorem SX(p:List Cl)(g:Tm)(st:aA):aD prog 10 [.slice (p.map aX),g.av] st (fun r st'=>r=.slice ((uG p g).map nv)∧st'=st):=by
 have v1:=BR p
 have v2:=xM g
 refine aD.done ?_
 obtain⟨k,n,s,ts⟩:=g
 have v3:=uB k n s ts
 have hpr:=xR k n s ts
 have hcf:=fun h=>BP p (.mk k n s ts) h
 simp only[Tm.s,Tm.ts] at hcf
 rw[show uG p (.mk k n s ts)=if(fP p&&((Tm.mk k n s ts).valid&&gB k s (ts.length:Int)))=true then kC p (.mk k n s ts) else[] from rfl]
 simp only[bG] at v2 v3 hpr ⊢
 refine wF [1000000] 2 func10 ntmps10 rfl rfl ?_
 intro _
 simp only[aB,seval,vR]
 refine(v1 _).to ?_
 cases hok:fP p with
 | false=>
  simp only[c8,fR,cU,bJ]
  simp only[fZ,aB,seval]
  exact⟨rfl,aN.refl _⟩
 | true=>
  simp only[gG,i8,aB,seval,vR]
  refine(v2 _).to ?_
  cases hv:(Tm.mk k n s ts).valid with
  | false=>
   simp only[c8,fR,cU,bJ]
   simp only[fZ,i8,aB,seval]
   exact⟨rfl,aN.refl _⟩
  | true=>
   simp only[gG,i8,aB,seval,vR]
   refine(v3 _).to ?_
   cases hpl:gB k s (ts.length:Int) with
   | false=>
    simp only[fR,cU,bJ]
    simp only[fZ,i8,aB,seval]
    exact⟨rfl,aN.refl _⟩
   | true=>
    simp only[fA]
    have NT:p.length≤20:=(tH hok).1
    simp only[gG,i8,aB,seval,vR]
    refine(hpr _).to ?_
    simp only[aB,seval]
    refine(hcf (by omega) _).to ?_
    simp only[aB,seval]
    exact⟨rfl,aN.refl _⟩

section
variable {S:aA} {c b w:Nat} {hd tl l:List AV}
theorem A0{h:aM}{st:aA}{a a':AV}(hv:∀v,VC h st a [v]→VC h st a' [v]):∀(hd:List AV) {tl:List AV} {vs:List Value},aG h st (hd++a::tl) vs→aG h st (hd++a'::tl) vs
 | [],tl,vs,x=>by
  simp only[dR,aG] at x ⊢
  obtain⟨c,r,e,x1,x2⟩:=x
  exact⟨c,r,e,hv c x1,x2⟩
 | y::hd,tl,vs,x=>by
  simp only[dZ,aG] at x ⊢
  obtain⟨c,r,e,x1,x2⟩:=x
  exact⟨c,r,e,x1,A0 hv hd x2⟩
theorem cN.ZL{φ:AF}{st:aA}{c:Nat}{hd tl:List AV}{a:AV}(hc:st c=some (.cells (hd++a::tl))):cN φ st φ (st.aC c (.cells (hd++a.soft::tl))):=fun h tmps S F=>by
 have T:aS h st h (st.aC c (.cells (hd++a.soft::tl))):=aS.of fun x hx=>by
  have:x≠c:=by rintro rfl;rw[hc] at hx;cases hx
  rw[aA.bK _ _ this];exact hx
 refine⟨fun x o hx=>?_,T,fun d=>(F d).mono T⟩
 by_cases e:x=c
 · subst e
   rw[aA.aY] at hx
   cases hx
   obtain⟨hl,c0,t,e1,e2,vs,e3,e4⟩:=S x _ hc
   refine⟨hl,c0,t,e1,?_,vs,e3,aG.mono T _ _ (A0 (fun v hv=>VC.soft a [v] hv) hd e4)⟩
   simpa using e2
 · rw[aA.bK _ _ e] at hx
   obtain⟨hl,y⟩:=S x o hx
   exact⟨hl,hQ.mono T rfl y⟩
end
abbrev nP:=zi a7 (zi b8 (zi bN gQ))
theorem xP(cl:Cl)(h1:cl.1.small=true)(h2:cl.2.length≤1048576)(h3:∀x∈cl.2,x.small=true)(st:aA):aD prog 62 [aX cl] st (fun r st'=>r=aX cl∧st'=st):=by
 obtain⟨⟨k,n,s,ks⟩,ts⟩:=cl
 have hhd:=fun st=>oA (.mk k n s ks) st h1
 simp only[bG] at hhd
 have IH:=fun(x:Tm) (hx:x∈ts) st=>oA x st (h3 x hx)
 have hlen:ts.length≤1048576:=h2
 refine aD.oD (aD.fin ?_)
 simp only[dH]
 refine wF [] 1 func62 ntmps62 rfl rfl ?_
 simp only[cS,AV.fits,dV,aF]
 intro ⟨_,_,_,_,hl,_⟩
 simp only[aB,seval,nP]
 intro b2 hb2
 refine(hhd _).to ?_
 simp only[aH,aB,seval,nP]
 intro c hc
 have hne:c≠b2:=by rintro rfl;rw[aA.aY] at hc;cases hc
 have hn2:st c=none:=by rw[aA.bK st _ hne] at hc;exact hc
 have g7:b2≠c:=dQ hne
 refine eV (σ:=Nat) [] [1,2,3] ts (fun i b=>(((ts.take i).map (fun y=>y)).map Tm.av≠[]→(aA.aC (st.aC b2 (.cells [AV.int .i64 0,AV.int .i64 0,AV.str ⟨#[]⟩,AV.fslice [],AV.fslice []])) c (.cells ([AV.int .i64 k,AV.int .i64 n,AV.str s,AV.slice (ks.map Tm.av)]++ [aP 4 b (((ts.take i).map (fun y=>y)).map Tm.av)]))) b=none)) (fun i b=>[(4,.int .i64 i)]) (fun i b=>dB (st.aC b2 (.cells [AV.int .i64 0,AV.int .i64 0,AV.str ⟨#[]⟩,AV.fslice [],AV.fslice []])) c b [AV.int .i64 k,AV.int .i64 n,AV.str s,AV.slice (ks.map Tm.av)] (((ts.take i).map (fun y=>y)).map Tm.av)) (by decide +kernel)
  ⟨0,fun h=>absurd rfl h,aL.mk (by simp only[aB,↓bD,seval])⟩ (fun i x b hx hlt bY hdr hinv=>?_) (fun b hge hinv=>?_)
 case refine_1=>
  have hw:=bB (n:=(i:Int)+1)
  have cO:(((ts.take i).map (fun y=>y)).map Tm.av).length=i:=by simp only[aF,d7];omega
  have htk:(ts.take (i+1)).map (fun y=>y)=(ts.take i).map (fun y=>y)++ [(fun y=>y) x]:=by rw[fE,hx];simp
  have hbo:=c6 hinv
  simp only[aF,bY,aB,seval,nP]
  refine wP [(0,1),(2,1),(4,1),(1,2),(3,2),(5,1),(6,2),(7,2),(8,1),(9,0),(10,1),(11,0)] [0,2,4,1,3,5,6,7,8,10] mixed ?_
  simp only[cI (av:=Tm.av) cH hx (aO x),aR,aO,hbo,jN,fF,aB,seval,nP]
  refine iU (IH x (dD hx) _) ?_
  simp only[aR,aO,bV,fF,aB,seval,nP]
  refine eJ cH fT fU rfl rfl (eS (aO _) (bL _)) (c7 _) hinv (by simp only[cO,bE,bO];omega) (by simp only[cO,bE,bO];omega) (fun b' hb'=>?_)
  rw[show(((ts.take i).map (fun y=>y)).map Tm.av)++ [((fun y=>y) x).av]=((ts.take (i+1)).map (fun y=>y)).map Tm.av by rw[htk];simp] at hb' ⊢
  obtain⟨g1,g2,g3⟩:=lF hb'
  simp only[dZ,dR] at g1 g3
  simp only[g3,j8,dN,aH,g1,hw,aH,aB,seval,nP]
  exact⟨b',g2,aL.mk (by simp only[aB,seval])⟩
 have hbo:=c6 hinv
 rw[eE] at hinv hbo ⊢
 simp only[aF,hge,aB,seval,nP]
 simp only[hbo,aH,aB,seval,nP]
 have hS:(st.aC b2 (.cells [AV.int .i64 0,AV.int .i64 0,AV.str ⟨#[]⟩,AV.fslice [],AV.fslice []])) b2≠none:=by rw[aA.aY];simp
 have h1:=eU hinv hS g7
 rw[aA.aY] at h1
 simp only[h1,dN,aB,seval]
 obtain⟨h2,h3⟩:=gN (o:=.cells [AV.int .i64 k,AV.int .i64 n,AV.str s,AV.slice (ks.map Tm.av),aP 4 b ((ts.map fun y=>y).map Tm.av)]) hinv hS g7
 refine⟨b,_,_,h2,h3,fC _,⟨4,c7 _⟩,?_,?_⟩
 · simp only[gZ,b9,bJ,eR,gK,nE,fJ,List.map_id']
 · exact(((aN.refl _).aC hb2).aC hn2).aC hb2
theorem nA(l:List Cl):∀e∈l.map aX,e.width=5:=by intro e h;simp only[gR] at h;obtain⟨t,_,rfl⟩:=h;exact gV t
theorem uE(l:List Cl):∀e∈l.map aX,e.bA=false:=by intro e h;simp only[gR] at h;obtain⟨t,_,rfl⟩:=h;exact rY t
def iK(s:ByteArray)(a:Int)(p:UInt8→Bool):Bool:=decide (0≤a)&&(decide (a<(s.size:Int))&&(match (sb s)[a.toNat]? with | some x=>p x | none=>false))
def nM(s:ByteArray)(a:Int)(c:Nat):Bool:=iK s a fun x=>decide (x.toNat=c)
def nB(s:ByteArray)(a:Int):Bool:=iK s a fun x=>decide (48≤x.toNat)&&decide (x.toNat≤57)
def nN(s:ByteArray)(a:Int):Bool:=iK s a d5
theorem l6{s:ByteArray}{n:Nat}(h:n<s.size):∃x,(sb s)[n]?=some x:=⟨_,eD (by rw[a8];exact h)⟩
abbrev P0:=zi a7 (zi cC (zi gE bW))
theorem TF(s:ByteArray)(a:Int)(c:Nat)(st:aA):aD prog 130 [.str s,.int .i64 a,.int .u8 (c:Int)] st (fun r st'=>r=.bool (nM s a c)∧st'=st):=by
 by_cases h:0≤a∧a<(s.size:Int)
 · obtain⟨n,rfl⟩:=pB h.1
   obtain⟨x,hx⟩:=l6 (s:=s) (n:=n) (by omega)
   have hix:=kG (P:=prog) (t:=9) jX hx
   have hv:nM s (n:Int) c=decide (x.toNat=c):=by simp only[nM,iK,j1,hx,dA h.1,dA h.2,dC]
   rw[hv]
   refine wF [1000000] 3 func130 ntmps130 rfl rfl ?_
   intro _
   repeat' (first
    | (simp only[*,aB,seval,P0])
    | (refine cM (fun h=>?_) (fun h=>?_))
    | (refine bC (fun h=>?_) (fun h=>?_)))
   all_goals simp_all
   omega
 · by_cases h1:0≤a
   · have h2:¬a<(s.size:Int):=fun h2=>h ⟨h1,h2⟩
     have hv:nM s a c=false:=by simp only[nM,iK,cZ h2,c8,mS]
     rw[hv]
     clear hv h
     refine wF [1000000] 3 func130 ntmps130 rfl rfl ?_
     intro _
     simp only[h1,h2,aT,aZ,aB,seval,P0]
   · have hv:nM s a c=false:=by simp only[nM,iK,cZ h1,c8]
     rw[hv]
     clear hv h
     refine wF [1000000] 3 func130 ntmps130 rfl rfl ?_
     intro _
     simp only[h1,aZ,aB,seval]
abbrev P1:=zi a7 (zi cC (zi gE bW))
theorem S8(s:ByteArray)(a:Int)(st:aA):aD prog 206 [.str s,.int .i64 a] st (fun r st'=>r=.bool (nB s a)∧st'=st):=by
 by_cases h:0≤a∧a<(s.size:Int)
 · obtain⟨n,rfl⟩:=pB h.1
   obtain⟨x,hx⟩:=l6 (s:=s) (n:=n) (by omega)
   have hix:=kG (P:=prog) (t:=9) jX hx
   have hv:nB s (n:Int)=(decide (48≤x.toNat)&&decide (x.toNat≤57)):=by simp only[nB,iK,j1,hx,dA h.1,dA h.2,dC]
   rw[hv]
   refine wF [1000000] 2 func206 ntmps206 rfl rfl ?_
   intro _
   repeat' (first
    | (simp only[*,aB,seval,P1])
    | (refine cM (fun h=>?_) (fun h=>?_))
    | (refine bC (fun h=>?_) (fun h=>?_)))
   all_goals clear hix hv hx
   all_goals (congr 1;rw[Bool.eq_iff_iff];simp only[bX,a9,c5,gG,fR,false_iff,not_and] at *;omega)
 · by_cases h1:0≤a
   · have h2:¬a<(s.size:Int):=fun h2=>h ⟨h1,h2⟩
     have hv:nB s a=false:=by simp only[nB,iK,cZ h2,c8,mS]
     rw[hv]
     clear hv h
     refine wF [1000000] 2 func206 ntmps206 rfl rfl ?_
     intro _
     simp only[h1,h2,aT,aZ,aB,seval,P1]
   · have hv:nB s a=false:=by simp only[nB,iK,cZ h1,c8]
     rw[hv]
     clear hv h
     refine wF [1000000] 2 func206 ntmps206 rfl rfl ?_
     intro _
     simp only[h1,aZ,aB,seval]
abbrev P2:=zi a7 (zi cC (zi gE bW))
theorem TH(s:ByteArray)(a:Int)(st:aA):aD prog 228 [.str s,.int .i64 a] st (fun r st'=>r=.bool (nN s a)∧st'=st):=by
 by_cases h:0≤a∧a<(s.size:Int)
 · obtain⟨n,rfl⟩:=pB h.1
   obtain⟨x,hx⟩:=l6 (s:=s) (n:=n) (by omega)
   have hix:=kG (P:=prog) (t:=9) jX hx
   have hv:nN s (n:Int)=(decide (97≤x.toNat)&&decide (x.toNat≤122)):=by simp only[nN,iK,d5,j1,hx,dA h.1,dA h.2,dC]
   rw[hv]
   refine wF [1000000] 2 func228 ntmps228 rfl rfl ?_
   intro _
   repeat' (first
    | (simp only[*,aB,seval,P2])
    | (refine cM (fun h=>?_) (fun h=>?_))
    | (refine bC (fun h=>?_) (fun h=>?_)))
   all_goals clear hix hv hx
   all_goals (congr 1;rw[Bool.eq_iff_iff];simp only[bX,a9,c5,gG,fR,false_iff,not_and] at *;omega)
 · by_cases h1:0≤a
   · have h2:¬a<(s.size:Int):=fun h2=>h ⟨h1,h2⟩
     have hv:nN s a=false:=by simp only[nN,iK,cZ h2,c8,mS]
     rw[hv]
     clear hv h
     refine wF [1000000] 2 func228 ntmps228 rfl rfl ?_
     intro _
     simp only[h1,h2,aT,aZ,aB,seval,P2]
   · have hv:nN s a=false:=by simp only[nN,iK,cZ h1,c8]
     rw[hv]
     clear hv h
     refine wF [1000000] 2 func228 ntmps228 rfl rfl ?_
     intro _
     simp only[h1,aZ,aB,seval]
end Go.AW
namespace Go.AW
abbrev ba (l:List UInt8):ByteArray:=⟨⟨l⟩⟩
def bU(x:UInt8):Bool:=decide (48≤x.toNat)&&decide (x.toNat≤57)
def kQ(x:UInt8):Bool:=decide (65≤x.toNat)&&decide (x.toNat≤90)
def a6(l:List UInt8)(n c:Nat):Bool:=match l[n]? with | some x=>decide (x.toNat=c) | none=>false
def cV(l:List UInt8)(n:Nat)(p:UInt8→Bool):Bool:=match l[n]? with | some x=>p x | none=>false
def gY(l:List UInt8):Nat:=l.foldl (fun n x=>n*10+(x.toNat - 48)) 0
def dP(l:List UInt8):Nat×Bool:=if l.length=0∨(a6 l 0 48=true∧1<l.length) then(0,false) else(gY l,true)
def lH(l:List UInt8)(a:Nat):Option (Int×Nat):=
 let f:=if a6 l a 45 then a+1 else a
 let t:=((l.drop f).takeWhile bU).take 4
 if(dP t).2=false∨(a<f∧(dP t).1=0)∨999<(dP t).1 then none else some (if a<f then -((dP t).1:Int) else((dP t).1:Int),f+t.length)
def eN(l:List UInt8)(b g:ByteArray):ByteArray:=if l.take g.size=sb g∧b.size<g.size then g else b
def iD(l:List UInt8)(a:Nat):Option (ByteArray×Nat):=
 let t:=(l.drop a).takeWhile d5
 if 6<t.length then none else if 0<t.length then some (ba t,a+t.length)
 else let b:=dX.foldl (eN (l.drop a)) ⟨#[]⟩
  if b.size=0 then none else some (b,a+b.size)
theorem CQ{l:List UInt8}{i:Nat}{x:UInt8}(h:l[i]?=some x):gY (l.take (i+1))=gY (l.take i)*10+(x.toNat - 48):=by
 simp [gY,fE,h,List.foldl_append]
theorem CP:∀(l:List UInt8) (n:Nat),(∀x∈l,bU x=true)→l.foldl (fun n x=>n*10+(x.toNat - 48)) n+1≤(n+1)*10 ^ l.length
 | [],n,_=>by simp
 | x::l,n,h=>by
  have hx:=h x (by simp)
  simp only[bU,bX,a9] at hx
  have:=CP l (n*10+(x.toNat - 48)) (fun y hy=>h y (by simp [hy]))
  simp only[rC,bE,Nat.pow_succ]
  refine j4 this ?_
  rw[Nat.mul_comm (10 ^ l.length) 10,←Nat.mul_assoc]
  exact lU _ (by omega)
theorem xZ{l:List UInt8}(h:∀x∈l,bU x=true):gY l<10 ^ l.length:=Nat.lt_of_succ_le (by have:=CP l 0 h;simpa [gY] using this)
theorem ZF(s:ByteArray)(a b:Nat):sb (s.extract a b)=((sb s).drop a).take (b - a):=by
 simp only[sb,ByteArray.data_extract,Array.toList_extract,List.extract_eq_take_drop]
theorem R8{g:ByteArray}(h:g.size=0):g=⟨#[]⟩:=by
 obtain⟨⟨l⟩⟩:=g
 have:l.length=0:=h
 rw[List.length_eq_zero_iff.1 this]
theorem BI(s:ByteArray):ba (sb s)=s:=rfl
theorem rT(s:ByteArray)(a b:Nat):s.extract a b=ba (((sb s).drop a).take (b - a)):=by rw[←ZF]
theorem hY{l:List UInt8}{n c:Nat}(h:a6 l n c=true):n<l.length:=by
 unfold a6 at h
 rcases gS n l.length with h1 | h1
 · exact h1
 · rw[List.getElem?_eq_none h1] at h;cases h
theorem X6{l:List UInt8}{n:Nat}{p:UInt8→Bool}(h:cV l n p=true):n<l.length:=by
 unfold cV at h
 rcases gS n l.length with h1 | h1
 · exact h1
 · rw[List.getElem?_eq_none h1] at h;cases h
theorem kH{l:List UInt8}{n c:Nat}{x:UInt8}(h:l[n]?=some x):a6 l n c=decide (x.toNat=c):=by simp only[a6,h]
theorem mJ{l:List UInt8}{n:Nat}{p:UInt8→Bool}{x:UInt8}(h:l[n]?=some x):cV l n p=p x:=by simp only[cV,h]
theorem OC{l:List UInt8}(h:∀x∈l,bU x=true)(hl:l.length≤4):(dP l).1<10000:=by
 unfold dP
 split
 · simp
 · exact mU (xZ h) (j4 (wS (by omega) hl) (by decide))
theorem AK{p:UInt8→Bool}{l:List UInt8}{i:Nat}(hi:i≤(l.takeWhile p).length)(h:cV l i p=true):i<(l.takeWhile p).length:=by
 induction l generalizing i with
 | nil=>simp [cV] at h
 | cons x l ih=>
  cases i with
  | zero=>simp [cV] at h;simp [rE,h]
  | succ i=>
   rw[rE] at hi ⊢
   split at hi
   · rename_i hx
     rw[a4 hx]
     simp only[bE] at hi ⊢
     have:=ih (i:=i) (by omega) (by simpa [cV] using h)
     omega
   · simp at hi
theorem AJ{p:UInt8→Bool}{l:List UInt8}{i:Nat}(hi:i≤(l.takeWhile p).length)(h:cV l i p=false):i=(l.takeWhile p).length:=by
 induction l generalizing i with
 | nil=>simp at hi;simp [hi]
 | cons x l ih=>
  cases i with
  | zero=>simp [cV] at h;simp [rE,h]
  | succ i=>
   rw[rE] at hi ⊢
   split at hi
   · rename_i hx
     rw[a4 hx]
     simp only[bE] at hi ⊢
     have:=ih (i:=i) (by omega) (by simpa [cV] using h)
     omega
   · simp at hi
theorem QM(p:UInt8→Bool)(l:List UInt8):l.take (l.takeWhile p).length=l.takeWhile p:=by
 induction l with
 | nil=>rfl
 | cons x l ih=>
  rw[rE]
  split
  · simp [ih]
  · rfl
theorem qL(l:List UInt8)(a i:Nat)(p:UInt8→Bool):cV (l.drop a) i p=cV l (a+i) p:=by simp only[cV,List.getElem?_drop]
theorem QK{p:UInt8→Bool}{l:List UInt8}:∀x∈l.takeWhile p,p x=true:=by
 induction l with
 | nil=>simp
 | cons y l ih=>
  rw[rE]
  split
  · rename_i h;intro x hx;simp only[iG] at hx;rcases hx with rfl | hx;exact h;exact ih x hx
  · simp
theorem QL{p:UInt8→Bool}{l:List UInt8}{k:Nat}(hk:k≤(l.takeWhile p).length):l.take k=(l.takeWhile p).take k:=by
 rw[←QM p l,tR,kT hk]
theorem tG(p:UInt8→Bool)(l:List UInt8):(l.takeWhile p).length≤l.length:=(List.takeWhile_sublist p).length_le
theorem BJ(L:List UInt8):∀(gs:List ByteArray) (b:ByteArray),b.size≤3→(∀g∈gs,g.size≤3)→(gs.foldl (eN L) b).size≤3
 | [],b,h,_=>h
 | g::gs,b,h,hg=>by
  rw[rC]
  refine BJ L gs _ ?_ fun x hx=>hg x (by simp [hx])
  unfold eN
  split
  · exact hg g (by simp)
  · exact h
theorem O4:∀g∈dX,g.size≤3:=by decide
theorem SA(L:List UInt8)(i:Nat):((dX.take i).foldl (eN L) ⟨#[]⟩).size≤3:=BJ L _ _ (by decide) fun g hg=>O4 g (j3 hg)
end Go.AW
namespace Go.AW
open Go.Proofs.Tryz
theorem s5{φ:AF}{y z:Operand}{s:ByteArray}{k m:Nat}(h:φ.eval y=.int .i64 (k:Int))(h':φ.eval z=.int .i64 (m:Int))(hk:k≤m)(hm:m≤s.size):j7 prog φ 9 (.str s) (some y) (some z) none=some (.str (s.extract k m)):=by
 unfold j7 n6
 rw[aQ (by simp [sL])]
 simp only[show prog.underlying 9=some .string from jX,dJ,h,h']
 rw[a4 (by omega)]
 simp only[j1]
 rw[a4 (by omega)]
 try simp
theorem xJ(s:ByteArray)(n:Nat)(p:UInt8→Bool):iK s (n:Int) p=cV (sb s) n p:=by
 unfold iK cV
 rw[j1]
 by_cases h:n<s.size
 · rw[dA (by omega:(0:Int)≤(n:Int)),dA (by omega:(n:Int)<(s.size:Int))];try rfl
 · rw[cZ (by omega:¬(n:Int)<(s.size:Int)),List.getElem?_eq_none (by rw[a8];omega)];simp
theorem fB(s:ByteArray)(n c:Nat)(st:aA):aD prog 130 [.str s,.int .i64 (n:Int),.int .u8 (c:Int)] st (fun r st'=>r=.bool (a6 (sb s) n c)∧st'=st):=by
 have h:=TF s n c st
 rwa [show nM s n c=a6 (sb s) n c from xJ s n _] at h
theorem oO(s:ByteArray)(n:Nat)(st:aA):aD prog 206 [.str s,.int .i64 (n:Int)] st (fun r st'=>r=.bool (cV (sb s) n bU)∧st'=st):=by
 have h:=S8 s n st
 rwa [show nB s n=cV (sb s) n bU from xJ s n _] at h
theorem N9(s:ByteArray)(n:Nat)(st:aA):aD prog 228 [.str s,.int .i64 (n:Int)] st (fun r st'=>r=.bool (cV (sb s) n d5)∧st'=st):=by
 have h:=TH s n st
 rwa [show nN s n=cV (sb s) n d5 from xJ s n _] at h
theorem BE{n k:Nat}(h:n≤1048576)(hk:k≤1048576):IntKind.wrap .i64 ((n:Int)+(k:Int))=((n+k:Nat):Int):=by
 rw[wrap64 (by omega) (by omega)];try rfl
abbrev q6:=zi a7 (zi cC (zi gE bW))
theorem BW(s:ByteArray)(hd:∀x∈sb s,bU x=true)(hl:s.size≤4)(st:aA):aD prog 227 [.str s] st (fun r st'=>r=.tup [.int .i64 ((dP (sb s)).1:Int),.bool (dP (sb s)).2]∧st'=st):=by
 refine wF [1000000] 1 func227 ntmps227 rfl rfl ?_
 intro _
 by_cases hs:s.size=0
 · have e:dP (sb s)=(0,false):=by unfold dP;rw[a4 (Or.inl (by rw[a8];exact hs))]
   rw[e]
   simp only[hs,aB,↓bD,seval,q6]
 have qJ:(0:Int)<(s.size:Int):=by omega
 obtain⟨x0,hx0⟩:=l6 (s:=s) (n:=0) (by omega)
 have hix:=kG (P:=prog) (t:=9) jX hx0
 rw[show((0:Nat):Int)=0 from rfl] at hix
 have hdx:=hd x0 (dD hx0)
 simp only[bU,bX,a9] at hdx
 have h45:((x0.toNat:Int)=45)=False:=a5 (by omega)
 have h0:((s.size:Int)=0)=False:=a5 (by omega)
 have h17:((17:Int)<(s.size:Int))=False:=a5 (by omega)
 simp only[qJ,hix,h45,h0,h17,aT,aZ,aB,seval,q6]
 by_cases h48:x0.toNat=48
 case pos=>
  have qH:((x0.toNat:Int)=48)=True:=bM (by omega)
  by_cases h1:1<s.size
  case pos=>
   have h1':((1:Int)<(s.size:Int))=True:=bM (by omega)
   have e:dP (sb s)=(0,false):=by unfold dP;rw[a4 (Or.inr ⟨by rw[kH hx0,h48];try rfl,by rw[a8];exact h1⟩)]
   rw[e]
   simp only[qH,h1',aT,aB,↓bD,seval,q6]
  have h1':((1:Int)<(s.size:Int))=False:=a5 (by omega)
  have hnd:dP (sb s)=(gY (sb s),true):=by unfold dP;rw[aQ (by rw[a8];rintro(h | ⟨_,h⟩)<;>omega)]
  simp only[qH,h1',aT,aZ,aB,seval,q6]
  rw[hnd]
  refine fY (σ:=Nat) [1000000] [0,4] (fun i=>i≤s.size) (fun i=>[(5,.int .i64 (gY ((sb s).take i):Int)),(6,.int .i64 (i:Int))]) (fun _=>st) (fun i=>s.size - i) (by decide +kernel) ⟨0,by omega,aL.mk (by simp only[iY,aB,↓bD,seval];rfl)⟩ ?_
  intro i hi
  have hb:gY ((sb s).take i)<10000:=mU (xZ fun x hx=>hd x (j3 hx)) (j4 (wS (by omega) (by rw[d7];omega:((sb s).take i).length≤4)) (by decide))
  simp only[aB,seval,q6]
  refine bC (fun h5=>?_) (fun h5=>?_)
  case refine_2=>
   simp only[c5] at h5
   obtain rfl:i=s.size:=by omega
   rw[kS (by rw[a8];omega)]
   simp only[aB,seval]
  simp only[a9] at h5
  obtain⟨c,hc⟩:=l6 (s:=s) (n:=i) (by omega)
  have hic:=kG (P:=prog) (t:=9) jX hc
  have hdc:=hd c (dD hc)
  simp only[bU,bX,a9] at hdc
  have c48:((c.toNat:Int)<48)=False:=a5 (by omega)
  have c57:((57:Int)<(c.toNat:Int))=False:=a5 (by omega)
  have hw0:=BE (n:=i) (k:=1) (by omega) (by omega)
  rw[show((1:Nat):Int)=1 from rfl] at hw0
  have hw1:=bB (n:=(gY ((sb s).take i):Int)*10)
  have hw2:IntKind.wrap .u8 ((c.toNat:Int) - 48)=((c.toNat - 48:Nat):Int):=by rw[IntKind.wrap_u8];omega
  have hw3:=bB (n:=((c.toNat - 48:Nat):Int))
  have hw4:=bB (n:=(gY ((sb s).take i):Int)*10+((c.toNat - 48:Nat):Int))
  have fM:=CQ hc
  simp only[hic,c48,c57,hw1,hw2,aZ,aB,seval]
  refine⟨i+1,by omega,by omega,aL.mk ?_⟩
  rw[fM]
  simp only[hw0,hw3,hw4,aB,seval]
  rfl
 have qH:((x0.toNat:Int)=48)=False:=a5 (by omega)
 have hnd:dP (sb s)=(gY (sb s),true):=by unfold dP;rw[aQ (by rw[a8,kH hx0];rintro(h | ⟨h,_⟩);omega;exact h48 (of_decide_eq_true h))]
 simp only[qH,aZ,aB,seval]
 rw[hnd]
 refine fY (σ:=Nat) [1000000] [0,4] (fun i=>i≤s.size) (fun i=>[(5,.int .i64 (gY ((sb s).take i):Int)),(6,.int .i64 (i:Int))]) (fun _=>st) (fun i=>s.size - i) (by decide +kernel) ⟨0,by omega,aL.mk (by simp only[iY,aB,↓bD,seval];rfl)⟩ ?_
 intro i hi
 have hb:gY ((sb s).take i)<10000:=mU (xZ fun x hx=>hd x (j3 hx)) (j4 (wS (by omega) (by rw[d7];omega:((sb s).take i).length≤4)) (by decide))
 simp only[aB,seval,q6]
 refine bC (fun h5=>?_) (fun h5=>?_)
 case refine_2=>
  simp only[c5] at h5
  obtain rfl:i=s.size:=by omega
  rw[kS (by rw[a8];omega)]
  simp only[aB,seval]
 simp only[a9] at h5
 obtain⟨c,hc⟩:=l6 (s:=s) (n:=i) (by omega)
 have hic:=kG (P:=prog) (t:=9) jX hc
 have hdc:=hd c (dD hc)
 simp only[bU,bX,a9] at hdc
 have c48:((c.toNat:Int)<48)=False:=a5 (by omega)
 have c57:((57:Int)<(c.toNat:Int))=False:=a5 (by omega)
 have hw0:=BE (n:=i) (k:=1) (by omega) (by omega)
 rw[show((1:Nat):Int)=1 from rfl] at hw0
 have hw1:=bB (n:=(gY ((sb s).take i):Int)*10)
 have hw2:IntKind.wrap .u8 ((c.toNat:Int) - 48)=((c.toNat - 48:Nat):Int):=by rw[IntKind.wrap_u8];omega
 have hw3:=bB (n:=((c.toNat - 48:Nat):Int))
 have hw4:=bB (n:=(gY ((sb s).take i):Int)*10+((c.toNat - 48:Nat):Int))
 have fM:=CQ hc
 simp only[hic,c48,c57,hw1,hw2,aZ,aB,seval]
 refine⟨i+1,by omega,by omega,aL.mk ?_⟩
 rw[fM]
 simp only[hw0,hw3,hw4,aB,seval]
 rfl
theorem hO{x:Int}{m:Nat}(h:x=(m:Int))(hm:m≤1099511627776):IntKind.wrap .i64 x=(m:Int):=by rw[wrap64 (by omega) (by omega)];exact h
abbrev tD:Tm:=.mk 0 0 ⟨#[]⟩ []
def oQ(o:Option (Int×Nat)):AV:=match o with | some (n,e)=>.tup [(Tm.mk 2 n ⟨#[]⟩ []).av,.int .i64 (e:Int)] | none=>.tup [tD.av,.int .i64 (-1)]
abbrev o0:=zi a7 (zi cC (zi gE (zi nU (zi bW bN))))
set_option maxHeartbeats 1000000 in
theorem TD(s:ByteArray)(hs:s.size≤1000)(a:Nat)(ha:a≤s.size)(st:aA):aD prog 207 [.str s,.int .i64 (a:Int)] st (fun r st'=>r=oQ (lH (sb s) a)∧st'=st):=by
 refine aD.done ?_
 refine wF [1000000] 2 func207 ntmps207 rfl rfl ?_
 intro _
 simp only[aB,seval,o0]
 intro b hb
 refine(fB s a 45 _).to ?_
 obtain⟨f1,hf1⟩:∃f,f=a+1:=⟨_,rfl⟩
 have hw1:=hO (x:=(a:Int)+1) (m:=f1) (by omega) (by omega)
 simp only[aB,seval]
 refine bC (fun h1=>?_) (fun h1=>?_)
 · have hf:=hY h1
   rw[a8] at hf
   simp only[hw1,aB,seval]
   obtain⟨f,rfl⟩:∃f,f=f1:=⟨_,rfl⟩
   replace hf:f≤s.size:=by omega
   refine fY (σ:=Nat) [1000000] [0,1,4,5,7] (fun j=>f≤j∧j≤f+4∧j - f≤(((sb s).drop f).takeWhile bU).length) (fun j=>[(6,.int .i64 (j:Int))]) (fun _=>st.aC b (.cells [.int .i64 0,.int .i64 0,.str ⟨#[]⟩,.fslice []])) (fun j=>f+4 - j) (by decide +kernel) ⟨f,⟨by omega,by omega,by omega⟩,aL.mk (by simp only[aB,seval])⟩ ?_
   rintro j ⟨hj1,hj4,hj⟩
   have hfi:j≤s.size:=by have:=tG bU ((sb s).drop f);rw[kR,a8] at this;omega
   simp only[aB,seval]
   refine(oO s j _).to ?_
   have hw4:=bB (n:=(f:Int)+4)
   have sK:=bB (n:=(j:Int)+1)
   simp only[aB,seval]
   refine cM (fun h5=>?_) (fun h5=>?_)
   simp only[h5,hw4,aB,seval]
   refine bC (fun h6=>?_) (fun h6=>?_)
   case' refine_1.refine_1=>
    rw[show j=f+(j - f) by omega,←qL] at h5
    simp only[a9] at h6
    simp only[sK,aB,seval]
    exact⟨j+1,by omega,⟨by omega,by omega,by have:=AK hj h5;omega⟩,aL.mk (by simp only[aB,seval]<;>rfl)⟩
   all_goals
    have ht:(((sb s).drop f).takeWhile bU).take 4=((sb s).drop f).take (j - f):=by
     rw[QL hj]
     rcases gS (j - f) 4 with h7 | h7
     · have h8:j - f=(((sb s).drop f).takeWhile bU).length:=by
        refine AJ hj ?_
        rw[qL,show f+(j - f)=j by omega]
        first | exact h5 | (simp only[c5] at h6;omega)
       rw[h8,eE,kS (by omega)]
     · rw[show j - f=4 by omega]
    have hex:s.extract f j=ba ((((sb s).drop f).takeWhile bU).take 4):=by rw[rT,ht]
    have hln:((((sb s).drop f).takeWhile bU).take 4).length=j - f:=by rw[ht,d7,kR,a8];omega
    have hdg:∀x∈(((sb s).drop f).takeWhile bU).take 4,bU x=true:=fun x hx=>QK x (j3 hx)
    have hsl:=fun(φ:AF) (y z:Operand) (h:φ.eval y=.int .i64 (f:Int)) (h':φ.eval z=.int .i64 (j:Int))=>s5 (s:=s) h h' hj1 hfi
    rw[hex] at hsl
    have hrd:lH (sb s) a=if(dP ((((sb s).drop f).takeWhile bU).take 4)).2=false∨(a<f∧(dP ((((sb s).drop f).takeWhile bU).take 4)).1=0)∨999<(dP ((((sb s).drop f).takeWhile bU).take 4)).1 then none else some (if a<f then -((dP ((((sb s).drop f).takeWhile bU).take 4)).1:Int) else((dP ((((sb s).drop f).takeWhile bU).take 4)).1:Int),f+((((sb s).drop f).takeWhile bU).take 4).length):=by
     unfold lH
     simp only[h1,↓reduceIte,←hf1]
    rw[hrd]
    clear hrd
    generalize (((sb s).drop f).takeWhile bU).take 4=t at *
    simp only[hsl,h5,aB,seval]
    refine(BW (ba t) hdg (by show t.length≤4;omega) _).to ?_
    have hn:=OC hdg (by omega)
    rw[show sb (ba t)=t from rfl]
    generalize dP t=nd at *
    obtain⟨n,ok⟩:=nd
    simp only at hn ⊢
    have hw5:=bB (n:=0 - (n:Int))
    have hw6:=bB (n:= -(n:Int))
    have hfa:((a:Int)<(f:Int))=True:=bM (by omega)
    have hfn:(a<f)=True:=bM (by omega)
    cases ok
    case false=>
     simp only[aH,aB,seval,o0]
     refine⟨?_,(aN.refl _).aC hb⟩
     rw[a4 (Or.inl trivial)]
     simp only[oQ,bG,iE,lI,gP,iF,jH,b9,bJ,bJ]
    by_cases hz:(n:Int)=0
    case' pos=>have hz':n=0:=by omega
    case' neg=>have hz':n≠0:=by omega
    all_goals
     by_cases h9:(999:Int)<(n:Int)
     case' pos=>have h9':999<n:=by omega
     case' neg=>have h9':¬ 999<n:=by omega
     all_goals try (exfalso;omega)
     all_goals
      simp only[aH,hw5,hz,h9,hfa,aB,seval,o0]
      try
       refine(rU _ _).to ?_
       simp only[aH,aB,seval,o0]
      refine⟨?_,(aN.refl _).aC hb⟩
      first
       | rw[a4 (by omega)]
       | rw[aQ (by omega),a4 (by omega),show f+t.length=j by omega]
       | rw[aQ (by omega),aQ (by omega),show f+t.length=j by omega]
      simp only[oQ,bG,iE,lI,gP,iF,oV,jH,b9,bJ,bJ,Int.zero_sub]
 · skip
   simp only[aB,seval]
   obtain⟨f,rfl⟩:∃f,f=a:=⟨_,rfl⟩
   have hf:=ha
   refine fY (σ:=Nat) [1000000] [0,1,4,5,7] (fun j=>f≤j∧j≤f+4∧j - f≤(((sb s).drop f).takeWhile bU).length) (fun j=>[(6,.int .i64 (j:Int))]) (fun _=>st.aC b (.cells [.int .i64 0,.int .i64 0,.str ⟨#[]⟩,.fslice []])) (fun j=>f+4 - j) (by decide +kernel) ⟨f,⟨by omega,by omega,by omega⟩,aL.mk (by simp only[aB,seval])⟩ ?_
   rintro j ⟨hj1,hj4,hj⟩
   have hfi:j≤s.size:=by have:=tG bU ((sb s).drop f);rw[kR,a8] at this;omega
   simp only[aB,seval]
   refine(oO s j _).to ?_
   have hw4:=bB (n:=(f:Int)+4)
   have sK:=bB (n:=(j:Int)+1)
   simp only[aB,seval]
   refine cM (fun h5=>?_) (fun h5=>?_)
   simp only[h5,hw4,aB,seval]
   refine bC (fun h6=>?_) (fun h6=>?_)
   case' refine_1.refine_1=>
    rw[show j=f+(j - f) by omega,←qL] at h5
    simp only[a9] at h6
    simp only[sK,aB,seval]
    exact⟨j+1,by omega,⟨by omega,by omega,by have:=AK hj h5;omega⟩,aL.mk (by simp only[aB,seval]<;>rfl)⟩
   all_goals
    have ht:(((sb s).drop f).takeWhile bU).take 4=((sb s).drop f).take (j - f):=by
     rw[QL hj]
     rcases gS (j - f) 4 with h7 | h7
     · have h8:j - f=(((sb s).drop f).takeWhile bU).length:=by
        refine AJ hj ?_
        rw[qL,show f+(j - f)=j by omega]
        first | exact h5 | (simp only[c5] at h6;omega)
       rw[h8,eE,kS (by omega)]
     · rw[show j - f=4 by omega]
    have hex:s.extract f j=ba ((((sb s).drop f).takeWhile bU).take 4):=by rw[rT,ht]
    have hln:((((sb s).drop f).takeWhile bU).take 4).length=j - f:=by rw[ht,d7,kR,a8];omega
    have hdg:∀x∈(((sb s).drop f).takeWhile bU).take 4,bU x=true:=fun x hx=>QK x (j3 hx)
    have hsl:=fun(φ:AF) (y z:Operand) (h:φ.eval y=.int .i64 (f:Int)) (h':φ.eval z=.int .i64 (j:Int))=>s5 (s:=s) h h' hj1 hfi
    rw[hex] at hsl
    have hrd:lH (sb s) f=if(dP ((((sb s).drop f).takeWhile bU).take 4)).2=false∨(f<f∧(dP ((((sb s).drop f).takeWhile bU).take 4)).1=0)∨999<(dP ((((sb s).drop f).takeWhile bU).take 4)).1 then none else some (if f<f then -((dP ((((sb s).drop f).takeWhile bU).take 4)).1:Int) else((dP ((((sb s).drop f).takeWhile bU).take 4)).1:Int),f+((((sb s).drop f).takeWhile bU).take 4).length):=by
     unfold lH
     simp only[h1,↓reduceIte,fR]
    rw[hrd]
    clear hrd
    generalize (((sb s).drop f).takeWhile bU).take 4=t at *
    simp only[hsl,h5,aB,seval]
    refine(BW (ba t) hdg (by show t.length≤4;omega) _).to ?_
    have hn:=OC hdg (by omega)
    rw[show sb (ba t)=t from rfl]
    generalize dP t=nd at *
    obtain⟨n,ok⟩:=nd
    simp only at hn ⊢
    have hw5:=bB (n:=0 - (n:Int))
    have hw6:=bB (n:= -(n:Int))
    have hfa:((f:Int)<(f:Int))=False:=a5 (by omega)
    have hfn:(f<f)=False:=a5 (by omega)
    cases ok
    case false=>
     simp only[aH,aB,seval,o0]
     refine⟨?_,(aN.refl _).aC hb⟩
     rw[a4 (Or.inl trivial)]
     simp only[oQ,bG,iE,lI,gP,iF,jH,b9,bJ,bJ]
    by_cases hz:(n:Int)=0
    case' pos=>have hz':n=0:=by omega
    case' neg=>have hz':n≠0:=by omega
    all_goals
     by_cases h9:(999:Int)<(n:Int)
     case' pos=>have h9':999<n:=by omega
     case' neg=>have h9':¬ 999<n:=by omega
     all_goals try (exfalso;omega)
     all_goals
      simp only[aH,hz,h9,hfa,aB,seval,o0]
      try
       refine(rU _ _).to ?_
       simp only[aH,aB,seval,o0]
      refine⟨?_,(aN.refl _).aC hb⟩
      first
       | rw[a4 (by omega)]
       | rw[aQ (by omega),a4 (by omega),show f+t.length=j by omega]
       | rw[aQ (by omega),aQ (by omega),show f+t.length=j by omega]
      simp only[oQ,bG,iE,lI,gP,iF,oV,jH,b9,bJ,bJ]
def oP(o:Option (ByteArray×Nat)):AV:=match o with | some (b,e)=>.tup [.str b,.int .i64 (e:Int)] | none=>.tup [.str ⟨#[]⟩,.int .i64 (-1)]
theorem TG(st:aA):aD prog 192 [] st (fun r st'=>r=.slice (dX.map .str)∧st'=st):=aD.done ((B2 st).mono (by rintro _ _ ⟨rfl,rfl⟩;exact⟨rfl,aN.refl _⟩))
abbrev o5:=zi a7 (zi bW iT)
set_option maxHeartbeats 1000000 in
theorem xN(s:ByteArray)(hs:s.size≤1000)(a:Nat)(ha:a≤s.size)(st:aA):aD prog 208 [.str s,.int .i64 (a:Int)] st (fun r st'=>r=oP (iD (sb s) a)∧st'=st):=by
 refine wF [1000000] 2 func208 ntmps208 rfl rfl ?_
 intro _
 simp only[aB,seval]
 refine fY (σ:=Nat) [1000000] [0,1,4,5] (fun j=>a≤j∧j - a≤(((sb s).drop a).takeWhile d5).length) (fun j=>[(6,.int .i64 (j:Int))]) (fun _=>st) (fun j=>s.size - j) (by decide +kernel) ⟨a,⟨by omega,by omega⟩,aL.mk (by simp only[aB,seval])⟩ ?_
 rintro j ⟨hj1,hj⟩
 have hfi:j≤s.size:=by have:=tG d5 ((sb s).drop a);rw[kR,a8] at this;omega
 simp only[aB,seval]
 refine(N9 s j _).to ?_
 have hw6:=bB (n:=(a:Int)+6)
 have sK:=bB (n:=(j:Int)+1)
 simp only[aB,seval]
 refine bC (fun h5=>?_) (fun h5=>?_)
 · have hlt:=X6 h5
   rw[show j=a+(j - a) by omega,←qL] at h5
   simp only[sK,aB,seval]
   exact⟨j+1,by rw[a8] at hlt;omega,⟨by omega,by have:=AK hj h5;omega⟩,aL.mk (by simp only[aB,seval]<;>rfl)⟩
 rw[show j=a+(j - a) by omega,←qL] at h5
 have he:=AJ hj h5
 have hex:s.extract a j=ba (((sb s).drop a).takeWhile d5):=by rw[rT,he,QM]
 have hsl:=fun(φ:AF) (y z:Operand) (h:φ.eval y=.int .i64 (a:Int)) (h':φ.eval z=.int .i64 (j:Int))=>s5 (s:=s) h h' hj1 hfi
 rw[hex] at hsl
 simp only[hw6,aB,seval]
 refine bC (fun h6=>?_) (fun h6=>?_)
 · simp only[a9] at h6
   simp only[aB,seval]
   unfold iD
   rw[a4 (by omega)]
   try rfl
 simp only[c5] at h6
 simp only[aB,seval]
 refine bC (fun h7=>?_) (fun h7=>?_)
 · simp only[a9] at h7
   simp only[hsl,aB,seval]
   unfold iD
   rw[aQ (by omega),a4 (by omega),←he,show a+(j - a)=j by omega]
   try rfl
 simp only[c5] at h7
 obtain rfl:j=a:=by omega
 have hrd:iD (sb s) j=if(dX.foldl (eN ((sb s).drop j)) ⟨#[]⟩).size=0 then none else some (dX.foldl (eN ((sb s).drop j)) ⟨#[]⟩,j+(dX.foldl (eN ((sb s).drop j)) ⟨#[]⟩).size):=by
  unfold iD
  rw[aQ (by omega),aQ (by omega)]
 rw[hrd]
 clear hrd
 simp only[aB,seval]
 refine(TG _).to ?_
 simp only[aB,seval]
 refine fY (σ:=Nat) [1000000] [0,1,4,5,8] (fun i=>i≤dX.length) (fun i=>[(7,.str ((dX.take i).foldl (eN ((sb s).drop j)) ⟨#[]⟩)),(9,.int .i64 (i:Int))]) (fun _=>st) (fun i=>dX.length - i) (by decide +kernel) ⟨0,by omega,aL.mk (by simp only[iY,List.foldl_nil,aB,↓bD,seval])⟩ ?_
 intro i hi
 have hbl:=SA ((sb s).drop j) i
 simp only[aF,aB,seval,o5]
 refine bC (fun h8=>?_) (fun h8=>?_)
 case refine_2=>
  simp only[c5] at h8
  rw[show i=dX.length by omega,eE] at hbl ⊢
  generalize dX.foldl (eN ((sb s).drop j)) ⟨#[]⟩=g at *
  have hw7:=bB (n:=(j:Int)+(g.size:Int))
  simp only[aB,seval]
  refine bC (fun h9=>?_) (fun h9=>?_)
  · simp only[a9] at h9
    subst h9
    simp only[aB,seval]
    rfl
  · simp only[c5] at h9
    simp only[hw7,aB,seval,o5]
    rw[aQ fun h=>h9 (R8 h)]
    try rfl
 simp only[a9] at h8
 obtain⟨g,hg⟩:∃g,dX[i]?=some g:=⟨_,eD (by omega)⟩
 have hat:=cI (av:=AV.str) lC hg rfl
 have hgl:=O4 g (dD hg)
 have h15:dX.length=15:=rfl
 obtain⟨m,hm⟩:∃m,m=j+g.size:=⟨_,rfl⟩
 have hwn:=hO (x:=(j:Int)+(g.size:Int)) (m:=m) (by omega) (by omega)
 have hw1:=bB (n:=(i:Int)+1)
 have fM:(dX.take (i+1)).foldl (eN ((sb s).drop j)) ⟨#[]⟩=eN ((sb s).drop j) ((dX.take i).foldl (eN ((sb s).drop j)) ⟨#[]⟩) g:=by
  rw[fE,hg,List.foldl_append];try rfl
 generalize hB:(dX.take i).foldl (eN ((sb s).drop j)) ⟨#[]⟩=B at *
 simp only[hat,aB,seval,o5]
 refine wP [(0,1),(1,1),(2,1),(3,1),(4,1),(5,1),(6,1),(7,1),(8,1),(9,1),(10,1),(11,1),(12,1),(13,1),(14,1),(15,1),(16,2),(17,1),(18,1),(19,1),(20,1),(21,1),(22,1),(23,1),(24,1)] [0,1,2,3,4,5,6,7,8,9,10,11,12,13,14,15,16,17,18,19,20,21,22,23,24] mixed ?_
 by_cases hle:m≤s.size
 · have hex:s.extract j m=ba (((sb s).drop j).take g.size):=by rw[rT,hm,Nat.add_sub_cancel_left]
   have hsl:=fun(φ:AF) (y z:Operand) (h:φ.eval y=.int .i64 (j:Int)) (h':φ.eval z=.int .i64 (m:Int))=>s5 (s:=s) h h' (by omega) hle
   rw[hex] at hsl
   have sF:((m:Int)≤(s.size:Int))=True:=bM (by omega)
   by_cases heq:ba (((sb s).drop j).take g.size)=g
   · by_cases hlt:B.size<g.size
     · have bY:((B.size:Int)<(g.size:Int))=True:=bM (by omega)
       have hb:eN ((sb s).drop j) B g=g:=by unfold eN;rw[a4 ⟨congrArg sb heq,hlt⟩]
       simp only[hat,hwn,hw1,sF,hsl,heq,bY,aT,aB,seval,o5]
       exact⟨i+1,by omega,by omega,aL.mk (by simp only[fM,hb,aB,seval])⟩
     · have bY:((B.size:Int)<(g.size:Int))=False:=a5 (by omega)
       have hb:eN ((sb s).drop j) B g=B:=by unfold eN;rw[aQ fun h=>hlt h.2]
       simp only[hat,hwn,hw1,sF,hsl,heq,bY,aT,aZ,aB,seval,o5]
       exact⟨i+1,by omega,by omega,aL.mk (by simp only[fM,hb,aB,seval])⟩
   · have hb:eN ((sb s).drop j) B g=B:=by unfold eN;rw[aQ fun h=>heq (by rw[h.1])]
     simp only[hat,hwn,hw1,sF,hsl,heq,aT,aZ,aB,seval,o5]
     exact⟨i+1,by omega,by omega,aL.mk (by simp only[fM,hb,aB,seval])⟩
 · have sF:((m:Int)≤(s.size:Int))=False:=a5 (by omega)
   have hb:eN ((sb s).drop j) B g=B:=by
    unfold eN
    rw[aQ]
    rintro⟨h,_⟩
    have:=congrArg List.length h
    rw[d7,kR,a8,a8] at this
    omega
   simp only[hwn,hw1,sF,aZ,aB,seval,o5]
   exact⟨i+1,by omega,by omega,aL.mk (by simp only[fM,hb,aB,seval])⟩
end Go.AW
namespace Go.AW
def dT(nm:ByteArray):Bool:=decide (nm=⟨#[105,115]⟩)||decide (nm=⟨#[109,111,100]⟩)
def jF(l:List UInt8)(a:Nat):Option (ByteArray×Nat):=
 let f:=if a6 l a 32 then a+1 else a
 if l.length≤f then none else match iD l f with
 | none=>none
 | some (nm,e)=>if b7 nm=0 then none else if dT nm≠decide (a<f)∨(dT nm=true∧a6 l e 32=false) then none else some (nm,if dT nm then e+1 else e)
abbrev fG:=Nat→Option (Tm×Nat)
def jW(R:fG)(l:List UInt8)(c1 c2:Nat):Nat→Nat→List Tm→Option (List Tm×Nat)
 | 0,_,_=>none
 | n+1,a,acc=>match R a with
  | none=>none
  | some (t,e)=>if(a6 l e c1||a6 l e c2)=true then some (acc++ [t],e) else if a6 l e 44 then jW R l c1 c2 n (e+1) (acc++ [t]) else none
abbrev iA (nm:ByteArray) (ts:List Tm):Tm:=.mk 3 0 nm ts
def l7:List Tm→Tm→Tm
 | [],t=>t
 | x::xs,t=>iA ⟨#[46]⟩ [x,l7 xs t]
def oK(R:fG)(l:List UInt8)(a:Nat):Option (Tm×Nat):=
 match jW R l 93 124 (l.length+1) a [] with
 | none=>none
 | some (ts,e)=>if a6 l e 93 then some (l7 ts (iA ⟨#[91,93]⟩ []),e+1) else match R (e+1) with
  | none=>none
  | some (t,e')=>if a6 l e' 93 then some (l7 ts t,e'+1) else none
def uA(l:List UInt8)(a:Nat):Nat:=match l[a]? with | some x=>x.toNat | none=>0
def gO(R:Nat→fG)(l:List UInt8)(d a:Nat):Option (Tm×Nat):=
 if d<1∨l.length≤a then none
 else if a6 l a 40 then match R d (a+1) with
  | none=>none
  | some (t,e)=>if a6 l e 41 then some (t,e+1) else none
 else if(a6 l a 91&& !a6 l (a+1) 93)=true then oK (R (d - 1)) l (a+1)
 else if cV l a kQ then some (vr ((uA l a - 65:Nat):Int),a+1)
 else if(cV l a bU||(a6 l a 45&&cV l (a+1) bU))=true then match lH l a with
  | none=>none
  | some (n,e)=>some (.mk 2 n ⟨#[]⟩ [],e)
 else match iD l a with
  | none=>none
  | some (nm,e)=>if a6 l e 40=false then some (iA nm [],e) else match jW (R (d - 1)) l 41 41 (l.length+1) (e+1) [] with
   | none=>none
   | some (ts,e')=>some (iA nm ts,e'+1)
def qT(R:fG)(l:List UInt8)(lev:Nat):Nat→Tm→Nat→Option (Tm×Nat)
 | 0,_,_=>none
 | n+1,left,e=>match jF l e with
  | none=>some (left,e)
  | some (nm,e1)=>if b7 nm≠lev then some (left,e) else match R e1 with
   | none=>none
   | some (rt,e2)=>if lev=3 then some (iA nm [left,rt],e2) else qT R l lev n (iA nm [left,rt]) e2
def rd(l:List UInt8):Nat→Nat→Nat→Nat→Option (Tm×Nat)
 | 0,_,_,_=>none
 | n+1,d,a,0=>gO (fun d a=>rd l n d a 3) l d a
 | n+1,d,a,lv+1=>match rd l n d a lv with
  | none=>none
  | some (t,e)=>qT (fun a=>rd l n d a lv) l (lv+1) (l.length+1) t e
theorem ZH{l:List UInt8}{a c:Nat}(ha:a≤l.length):a≤(if a6 l a c=true then a+1 else a)∧(if a6 l a c=true then a+1 else a)≤l.length:=by
 split
 · have:=hY ‹_›;omega
 · omega
theorem Y6{l:List UInt8}{a:Nat}{x:Int}{e:Nat}(ha:a≤l.length)(h:lH l a=some (x,e)):a<e∧e≤l.length:=by
 unfold lH at h
 have hf:=ZH (c:=45) ha
 simp only at h
 generalize (if a6 l a 45=true then a+1 else a)=f at h hf
 split at h
 · cases h
 rename_i h1
 simp only[Option.some.injEq,Prod.mk.injEq] at h
 obtain⟨_,rfl⟩:=h
 have h2:(((l.drop f).takeWhile bU).take 4).length≠0:=by
  intro h0
  refine h1 (Or.inl ?_)
  unfold dP
  rw[a4 (Or.inl h0)]
 have h3:=tG bU (l.drop f)
 rw[kR] at h3
 have h4:(((l.drop f).takeWhile bU).take 4).length≤((l.drop f).takeWhile bU).length:=by rw[d7];omega
 omega
theorem BK(L:List UInt8):∀(gs:List ByteArray) (b:ByteArray),b.size≤L.length→(gs.foldl (eN L) b).size≤L.length
 | [],b,h=>h
 | g::gs,b,h=>by
  rw[rC]
  refine BK L gs _ ?_
  unfold eN
  split
  · rename_i h1
    have:=congrArg List.length h1.1
    rw[d7,a8] at this
    omega
  · exact h
theorem sU{l:List UInt8}{a:Nat}{x:ByteArray}{e:Nat}(ha:a≤l.length)(h:iD l a=some (x,e)):a<e∧e≤l.length:=by
 unfold iD at h
 simp only at h
 have h3:=tG d5 (l.drop a)
 rw[kR] at h3
 split at h
 · cases h
 split at h
 · cases h;omega
 split at h
 · cases h
 · have:=BK (l.drop a) dX ⟨#[]⟩ (iI _)
   rw[kR] at this
   cases h;omega
theorem OM{l:List UInt8}{a:Nat}{x:ByteArray}{e:Nat}(h:jF l a=some (x,e)):a<e∧e≤l.length∧b7 x≠0:=by
 unfold jF at h
 have h6:a≤(if a6 l a 32=true then a+1 else a):=by split<;>omega
 simp only at h
 generalize (if a6 l a 32=true then a+1 else a)=f at h h6
 split at h
 · cases h
 rename_i h1
 split at h
 · cases h
 rename_i nm e0 h2
 have h3:=sU (by omega) h2
 split at h
 · cases h
 rename_i h7
 split at h
 · cases h
 rename_i h4
 simp only[Option.some.injEq,Prod.mk.injEq] at h
 obtain⟨rfl,rfl⟩:=h
 split
 · rename_i h5
   have:a6 l e0 32=true:=by
    cases hb:a6 l e0 32 with
    | true=>rfl
    | false=>exact absurd (Or.inr ⟨h5,hb⟩) h4
   have:=hY this
   exact⟨by omega,by omega,h7⟩
 · exact⟨by omega,by omega,h7⟩
def mW(R:fG)(l:List UInt8):Prop:=∀a t e,a≤l.length→R a=some (t,e)→a<e∧e≤l.length∧Dn t
theorem v5{R:fG}{l:List UInt8}{c1 c2:Nat}(hR:mW R l):∀(n a:Nat) (acc:List Tm) (ts:List Tm) (e:Nat),a≤l.length→(∀x∈acc,Dn x)→jW R l c1 c2 n a acc=some (ts,e)→a<e∧e<l.length∧(∀x∈ts,Dn x)∧ts.length≤acc.length+n∧(a6 l e c1=true∨a6 l e c2=true):=by
 intro n
 induction n with
 | zero=>intro a acc ts e _ _ h;cases h
 | succ n ih=>
  intro a acc ts e ha yL h
  unfold jW at h
  split at h
  · cases h
  rename_i t e1 h1
  obtain⟨h2,h3,h4⟩:=hR a t e1 ha h1
  have sA:∀x∈acc++ [t],Dn x:=by intro x hx;rw[j2] at hx;rcases hx with hx | hx;exact yL x hx;rw[wR] at hx;subst hx;exact h4
  split at h
  · rename_i h5
    cases h
    rw[rA] at h5
    refine⟨h2,?_,sA,by rw[dM,wQ];omega,h5⟩
    rcases h5 with h5 | h5<;>exact hY h5
  split at h
  · rename_i h5
    have h6:=hY h5
    obtain⟨g1,g2,g3,g4,g5⟩:=ih (e1+1) _ ts e (by omega) sA h
    rw[dM,wQ] at g4
    exact⟨by omega,g2,g3,by omega,g5⟩
  · cases h
theorem x7{nm:ByteArray}{ts:List Tm}(hl:ts.length≤1048576)(h:∀x∈ts,Dn x):Dn (iA nm ts):=nC (by decide) hl h
theorem x8{nm:ByteArray}{x y:Tm}(hx:Dn x)(hy:Dn y):Dn (iA nm [x,y]):=x7 (by simp) (by intro z hz;simp only[iG,pE,or_false] at hz;rcases hz with rfl | rfl;exact hx;exact hy)
theorem CR{nm:ByteArray}:Dn (iA nm []):=x7 (by simp) (by simp)
theorem xT{t:Tm}(ht:Dn t):∀ts:List Tm,(∀x∈ts,Dn x)→Dn (l7 ts t)
 | [],_=>ht
 | x::xs,h=>x8 (h x (by simp)) (xT ht xs fun y hy=>h y (by simp [hy]))
theorem X7{R:fG}{l:List UInt8}(hR:mW R l)(hl:l.length≤1000){a:Nat}{t:Tm}{e:Nat}(ha:a≤l.length)(h:oK R l a=some (t,e)):a<e∧e≤l.length∧Dn t:=by
 unfold oK at h
 split at h
 · cases h
 rename_i ts e1 h1
 obtain⟨g1,g2,g3,g4,g5⟩:=v5 hR _ _ _ _ _ ha (by simp) h1
 split at h
 · cases h
   exact⟨by omega,by omega,xT CR _ g3⟩
 split at h
 · cases h
 rename_i t2 e2 h2
 obtain⟨k1,k2,k3⟩:=hR _ _ _ (by omega) h2
 split at h
 · rename_i h5
   cases h
   have:=hY h5
   exact⟨by omega,by omega,xT k3 _ g3⟩
 · cases h
theorem YZ{R:Nat→fG}{l:List UInt8}(hR:∀d,mW (R d) l)(hl:l.length≤1000){d a:Nat}{t:Tm}{e:Nat}(h:gO R l d a=some (t,e)):a<e∧e≤l.length∧Dn t:=by
 unfold gO at h
 split at h
 · cases h
 rename_i h0
 have ha:a<l.length:=by omega
 split at h
 · split at h
   · cases h
   rename_i t1 e1 h1
   obtain⟨k1,k2,k3⟩:=hR _ _ _ _ (by omega) h1
   split at h
   · rename_i h5
     cases h
     have:=hY h5
     exact⟨by omega,by omega,k3⟩
   · cases h
 split at h
 · obtain⟨k1,k2,k3⟩:=X7 (hR _) hl (by omega) h
   exact⟨by omega,k2,k3⟩
 split at h
 · cases h
   exact⟨by omega,by omega,x9 _⟩
 split at h
 · split at h
   · cases h
   rename_i n e1 h1
   cases h
   have:=Y6 (by omega) h1
   exact⟨this.1,this.2,nC (by decide) (by simp) (by simp)⟩
 split at h
 · cases h
 rename_i nm e1 h1
 have g:=sU (by omega) h1
 split at h
 · cases h
   exact⟨g.1,g.2,CR⟩
 split at h
 · cases h
 rename_i h6 _ ts e2 h2
 have h7:a6 l e1 40=true:=by simpa using h6
 have h8:=hY h7
 obtain⟨k1,k2,k3,k4,k5⟩:=v5 (hR _) _ _ _ _ _ (by omega) (by simp) h2
 cases h
 refine⟨by omega,by omega,x7 ?_ k3⟩
 rw[bO] at k4
 omega
theorem YT{R:fG}{l:List UInt8}(hR:mW R l)(lev:Nat):∀(n:Nat) (t0:Tm) (e0:Nat) (t:Tm) (e:Nat),e0≤l.length→Dn t0→qT R l lev n t0 e0=some (t,e)→e0≤e∧e≤l.length∧Dn t:=by
 intro n
 induction n with
 | zero=>intro t0 e0 t e _ _ h;cases h
 | succ n ih=>
  intro t0 e0 t e h0 ht h
  unfold qT at h
  split at h
  · cases h;exact⟨by omega,h0,ht⟩
  rename_i nm e1 h1
  have g:=OM h1
  split at h
  · cases h;exact⟨by omega,h0,ht⟩
  split at h
  · cases h
  rename_i rt e2 h2
  obtain⟨k1,k2,k3⟩:=hR _ _ _ g.2.1 h2
  split at h
  · cases h;exact⟨by omega,k2,x8 ht k3⟩
  · obtain⟨q1,q2,q3⟩:=ih _ _ _ _ k2 (x8 ht k3) h
    exact⟨by omega,q2,q3⟩
theorem oT{l:List UInt8}(hl:l.length≤1000):∀(n d lv:Nat),mW (fun a=>rd l n d a lv) l:=by
 intro n
 induction n with
 | zero=>intro d lv a t e _ h;cases h
 | succ n ih=>
  intro d lv a t e ha h
  cases lv with
  | zero=>
   simp only[rd] at h
   exact YZ (fun d=>ih d 3) hl h
  | succ lv=>
   simp only[rd] at h
   split at h
   · cases h
   rename_i t1 e1 h1
   obtain⟨k1,k2,k3⟩:=ih d lv a t1 e1 ha h1
   obtain⟨q1,q2,q3⟩:=YT (ih d lv) _ _ _ _ _ _ k2 k3 h
   exact⟨by omega,q2,q3⟩
end Go.AW
