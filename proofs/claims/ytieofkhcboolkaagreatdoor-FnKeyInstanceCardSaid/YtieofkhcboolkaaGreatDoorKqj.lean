import Derived.Test.YtieofkhcboolkaaGreatDoorKqi
import Derived.Test.YtieofkhcboolkaaGreatDoorKqf
set_option linter.unusedSimpArgs false
set_option linter.unusedVariables false
set_option maxRecDepth 100000
namespace Go.AW
open Go.Proofs.Tryz
abbrev S7:=zi aZ (zi fV (zi bH iV))
theorem XX(bs:List Bt)(c p:Nat)(st:aA)(hp:p+5000≤1099511627776)(hR:bE st c bs p):aD prog 88 [.ptr c 0] st (Dr bs c p 5000 st z8):=by
 refine aD.mH ?_
 refine wF [1000000] 1 func88 ntmps88 rfl rfl ?_
 intro _
 simp only[aB,seval,S7]
 intro b hb
 have hbc:=hR.ne hb
 refine(jB [3,2,4,1] (by simp) (by simp) bs c p (by omega) _ (hR.aC hbc)).mono ?_
 rintro _ _ ⟨y,hy,rfl,rfl⟩
 obtain⟨n,rfl,hn⟩:∃n:Nat,y=n∧n≤4:=by
  simp only[dS,gB,fU] at hy
  rcases hy with rfl | rfl | rfl | rfl
  · exact⟨3,rfl,by omega⟩
  · exact⟨2,rfl,by omega⟩
  · exact⟨4,rfl,by omega⟩
  · exact⟨1,rfl,by omega⟩
 have hpw:4 ^ (n+2)≤4096:=by
  have:=tN (n:=4) (by omega) (show n+2≤6 by omega)
  simpa using this
 simp only[aB,seval]
 refine(A9 bs c n (p+1) _ (by omega) (by omega) bE.new).mono ?_
 rintro _ _ ⟨p1,hp1,CB,rfl,t1,ht1,rfl⟩
 rw[bM]
 simp only[aO,bA,cD (aO _),cC (aQ _),aF,hbc,aB,seval,S7]
 refine⟨st.aC c (aK bs p1),?_,p1,by omega,by omega,rfl,t1,ht1,rfl⟩
 intro x
 by_cases e4:x=b<;>by_cases ec:x=c<;>simp_all [aA.aC]
mutual
def Tm.sh(m:Int):Tm→Tm
 | .mk k n s ts=>.mk k (if k=1 then IntKind.i64.wrap (n+m) else n) s (zN m ts)
def zN(m:Int):List Tm→List Tm
 | []=>[]
 | t::ts=>t.sh m::zN m ts
end
theorem UA(m:Int):∀ts:List Tm,zN m ts=ts.map (Tm.sh m)
 | []=>rfl
 | t::ts=>by simp only[zN,bT,UA m ts]
theorem Tm.SO(m k n:Int)(s:ByteArray)(ts:List Tm):(Tm.mk k n s ts).sh m=.mk k (if k=1 then IntKind.i64.wrap (n+m) else n) s (ts.map (Tm.sh m)):=by simp only[Tm.sh,UA]
abbrev jX:=zi aZ (zi b7 (zi cE bH))
theorem YA(m:Int):∀(t:Tm) (st:aA),t.small=true→aD prog 285 [t.av,.int .i64 m] st (fun r st'=>r=(t.sh m).av∧st'=st)
 | .mk k n s ts,st,hsm=>by
  obtain⟨hlen,p8⟩:=Tm.kT hsm
  have IH:=fun(x:Tm) (hx:x∈ts) st=>YA m x st (p8 x hx)
  refine aD.oN (aD.fin ?_)
  simp only[a6]
  refine wF [1000000,5] 2 func285 ntmps285 rfl rfl ?_
  simp only[dG,AV.fits,eJ,aG]
  intro ⟨_,_,_,hl,_⟩
  simp only[aF,aB,↓bG,seval,jX]
  intro b2 hb2 c hc
  have hne:c≠b2:=by rintro rfl;rw[aA.aP] at hc;cases hc
  have hn2:st c=none:=by rw[aA.aV st _ hne] at hc;exact hc
  have iQ:b2≠c:=cV hne
  have hS:(st.aC b2 (.cells [AV.int .i64 0,AV.int .i64 0,AV.str ⟨#[]⟩,AV.fslice []])) b2≠none:=by rw[aA.aP];simp
  refine aW (fun h=>?_) (fun h=>?_)
  · simp only[bK] at h
    simp only[aF,bM,aB,seval,jX]
    refine fW (σ:=Nat) [1000000] [1,2,4,5] ts (fun i b=>(((ts.take i).map (Tm.sh m)).map Tm.av≠[]→(aA.aC (st.aC b2 (.cells [AV.int .i64 0,AV.int .i64 0,AV.str ⟨#[]⟩,AV.fslice []])) c (.cells ([AV.int .i64 k,AV.int .i64 (IntKind.i64.wrap (n+m)),AV.str s]++ [aT 4 b (((ts.take i).map (Tm.sh m)).map Tm.av)]))) b=none)) (fun i b=>[(6,.int .i64 i)]) (fun i b=>cY (st.aC b2 (.cells [AV.int .i64 0,AV.int .i64 0,AV.str ⟨#[]⟩,AV.fslice []])) c b [AV.int .i64 k,AV.int .i64 (IntKind.i64.wrap (n+m)),AV.str s] (((ts.take i).map (Tm.sh m)).map Tm.av)) (by decide +kernel)
     ⟨0,fun h=>absurd rfl h,aL.mk (by simp only[aB,↓bG,seval])⟩ (fun i x b hx hlt b9 hdr hinv=>?_) (fun b hge hinv=>?_)
    case refine_1=>
     have hw:=bO (n:=(i:Int)+1)
     have cO:(((ts.take i).map (Tm.sh m)).map Tm.av).length=i:=by simp only[aG,dZ];omega
     have htk:(ts.take (i+1)).map (Tm.sh m)=(ts.take i).map (Tm.sh m)++ [(Tm.sh m) x]:=by rw[gW,hx];simp
     have hbo:=cH hinv
     simp only[aG,b9,aB,seval,jX]
     refine wP [(0,1),(2,1),(4,1),(7,1),(1,2),(3,2),(5,1),(6,2),(8,2),(9,1),(10,0),(11,1),(12,0)] [0,2,4,7,1,3,5,6,8,9,11] mixed ?_
     simp only[cJ (av:=Tm.av) cS hx (aR x),aQ,aR,hbo,iM,eX,aB,seval,jX]
     refine eV (IH x (c8 hx) _) ?_
     simp only[aQ,aR,bW,eX,aB,seval,jX]
     refine eH cS gG gH rfl rfl (eR (aR _) (bA _)) (cT _) hinv (by simp only[cO,bD,bN];omega) (by simp only[cO,bD,bN];omega) (fun b' hb'=>?_)
     rw[show(((ts.take i).map (Tm.sh m)).map Tm.av)++ [((Tm.sh m) x).av]=((ts.take (i+1)).map (Tm.sh m)).map Tm.av by rw[htk];simp] at hb' ⊢
     obtain⟨g1,g2,g3⟩:=kB hb'
     simp only[dM,dB] at g1 g3
     simp only[g3,jN,c5,aF,g1,hw,aF,aB,seval,jX]
     exact⟨b',g2,aL.mk (by simp only[aB,seval])⟩
    have hbo:=cH hinv
    rw[fZ] at hinv hbo ⊢
    simp only[aG,hge,aB,seval,jX]
    simp only[hbo,aF,aB,seval,jX]
    have h1:=dW hinv hS iQ
    rw[aA.aP] at h1
    simp only[h1,c5,aB,seval]
    obtain⟨h2,h3⟩:=fF (o:=.cells [AV.int .i64 k,AV.int .i64 (IntKind.i64.wrap (n+m)),AV.str s,aT 4 b ((ts.map (Tm.sh m)).map Tm.av)]) hinv hS iQ
    refine⟨b,_,_,h2,h3,d8 _,⟨4,cT _⟩,?_,(((aH.refl _).aC hb2).aC hn2).aC hb2⟩
    simp only[eC,bT,bF,dQ,d7,eG,←a6]
    rw[Tm.SO,aU h]
  · simp only[dF] at h
    simp only[aB,seval]
    refine fW (σ:=Nat) [1000000] [1,2,4,5] ts (fun i b=>(((ts.take i).map (Tm.sh m)).map Tm.av≠[]→(aA.aC (st.aC b2 (.cells [AV.int .i64 0,AV.int .i64 0,AV.str ⟨#[]⟩,AV.fslice []])) c (.cells ([AV.int .i64 k,AV.int .i64 (n),AV.str s]++ [aT 4 b (((ts.take i).map (Tm.sh m)).map Tm.av)]))) b=none)) (fun i b=>[(6,.int .i64 i)]) (fun i b=>cY (st.aC b2 (.cells [AV.int .i64 0,AV.int .i64 0,AV.str ⟨#[]⟩,AV.fslice []])) c b [AV.int .i64 k,AV.int .i64 (n),AV.str s] (((ts.take i).map (Tm.sh m)).map Tm.av)) (by decide +kernel)
     ⟨0,fun h=>absurd rfl h,aL.mk (by simp only[aB,↓bG,seval])⟩ (fun i x b hx hlt b9 hdr hinv=>?_) (fun b hge hinv=>?_)
    case refine_1=>
     have hw:=bO (n:=(i:Int)+1)
     have cO:(((ts.take i).map (Tm.sh m)).map Tm.av).length=i:=by simp only[aG,dZ];omega
     have htk:(ts.take (i+1)).map (Tm.sh m)=(ts.take i).map (Tm.sh m)++ [(Tm.sh m) x]:=by rw[gW,hx];simp
     have hbo:=cH hinv
     simp only[aG,b9,aB,seval,jX]
     refine wP [(0,1),(2,1),(4,1),(7,1),(1,2),(3,2),(5,1),(6,2),(8,2),(9,1),(10,0),(11,1),(12,0)] [0,2,4,7,1,3,5,6,8,9,11] mixed ?_
     simp only[cJ (av:=Tm.av) cS hx (aR x),aQ,aR,hbo,iM,eX,aB,seval,jX]
     refine eV (IH x (c8 hx) _) ?_
     simp only[aQ,aR,bW,eX,aB,seval,jX]
     refine eH cS gG gH rfl rfl (eR (aR _) (bA _)) (cT _) hinv (by simp only[cO,bD,bN];omega) (by simp only[cO,bD,bN];omega) (fun b' hb'=>?_)
     rw[show(((ts.take i).map (Tm.sh m)).map Tm.av)++ [((Tm.sh m) x).av]=((ts.take (i+1)).map (Tm.sh m)).map Tm.av by rw[htk];simp] at hb' ⊢
     obtain⟨g1,g2,g3⟩:=kB hb'
     simp only[dM,dB] at g1 g3
     simp only[g3,jN,c5,aF,g1,hw,aF,aB,seval,jX]
     exact⟨b',g2,aL.mk (by simp only[aB,seval])⟩
    have hbo:=cH hinv
    rw[fZ] at hinv hbo ⊢
    simp only[aG,hge,aB,seval,jX]
    simp only[hbo,aF,aB,seval,jX]
    have h1:=dW hinv hS iQ
    rw[aA.aP] at h1
    simp only[h1,c5,aB,seval]
    obtain⟨h2,h3⟩:=fF (o:=.cells [AV.int .i64 k,AV.int .i64 (n),AV.str s,aT 4 b ((ts.map (Tm.sh m)).map Tm.av)]) hinv hS iQ
    refine⟨b,_,_,h2,h3,d8 _,⟨4,cT _⟩,?_,(((aH.refl _).aC hb2).aC hn2).aC hb2⟩
    simp only[eC,bT,bF,dQ,d7,eG,←a6]
    rw[Tm.SO,aS h]
termination_by t=>SizeOf.sizeOf t
decreasing_by have:=List.sizeOf_lt_of_mem hx;simp only[Tm.mk.sizeOf_spec];omega
abbrev qP:=zi aZ (zi b7 (zi cE bH))
theorem A8(k n:Int)(s:ByteArray)(ts:List Tm)(st:aA)(hsm:(Tm.mk k n s ts).small=true):aD prog 84 [(Tm.mk k n s ts).av] st (fun r st'=>∃b,r=.agg [.int .i64 k,.int .i64 n,.str s,aT 4 b (ts.map Tm.av)]∧st'=aY st b (ts.map Tm.av)∧(ts.map Tm.av≠[]→st b=none)):=by
 obtain⟨hlen,p8⟩:=Tm.kT hsm
 have IH:=fun(x:Tm) (hx:x∈ts) st=>rU x st (p8 x hx)
 refine aD.mH ?_
 simp only[a6]
 refine wF [] 1 func84 ntmps84 rfl rfl ?_
 simp only[dG,AV.fits,eJ,aG]
 intro ⟨_,_,_,hl,_⟩
 simp only[aB,seval,qP]
 intro b2 hb2 c hc
 have hne:c≠b2:=by rintro rfl;rw[aA.aP] at hc;cases hc
 have hn2:st c=none:=by rw[aA.aV st _ hne] at hc;exact hc
 simp only[aF,aB,seval]
 refine fW (σ:=Nat) [] [1,2,3] ts (fun i b=>(((ts.take i).map (fun y=>y)).map Tm.av≠[]→(aA.aC (st.aC b2 (.cells [AV.int .i64 0,AV.int .i64 0,AV.str ⟨#[]⟩,AV.fslice []])) c (.cells ([AV.int .i64 k,AV.int .i64 n,AV.str s]++ [aT 4 b (((ts.take i).map (fun y=>y)).map Tm.av)]))) b=none)) (fun i b=>[(4,.int .i64 i)]) (fun i b=>cY (st.aC b2 (.cells [AV.int .i64 0,AV.int .i64 0,AV.str ⟨#[]⟩,AV.fslice []])) c b [AV.int .i64 k,AV.int .i64 n,AV.str s] (((ts.take i).map (fun y=>y)).map Tm.av)) (by decide +kernel)
  ⟨0,fun h=>absurd rfl h,aL.mk (by simp only[aB,↓bG,seval])⟩ (fun i x b hx hlt b9 hdr hinv=>?_) (fun b hge hinv=>?_)
 case refine_1=>
  have hw:=bO (n:=(i:Int)+1)
  have cO:(((ts.take i).map (fun y=>y)).map Tm.av).length=i:=by simp only[aG,dZ];omega
  have htk:(ts.take (i+1)).map (fun y=>y)=(ts.take i).map (fun y=>y)++ [(fun y=>y) x]:=by rw[gW,hx];simp
  have hbo:=cH hinv
  simp only[aG,b9,aB,seval,qP]
  refine wP [(0,1),(2,1),(4,1),(1,2),(3,2),(5,1),(6,2),(7,2),(8,1),(9,0),(10,1),(11,0)] [0,2,4,1,3,5,6,7,8,10] mixed ?_
  simp only[cJ (av:=Tm.av) cS hx (aR x),aQ,aR,hbo,iM,eX,aB,seval,qP]
  refine eV (IH x (c8 hx) _) ?_
  simp only[aQ,aR,bW,eX,aB,seval,qP]
  refine eH cS gG gH rfl rfl (eR (aR _) (bA _)) (cT _) hinv (by simp only[cO,bD,bN];omega) (by simp only[cO,bD,bN];omega) (fun b' hb'=>?_)
  rw[show(((ts.take i).map (fun y=>y)).map Tm.av)++ [((fun y=>y) x).av]=((ts.take (i+1)).map (fun y=>y)).map Tm.av by rw[htk];simp] at hb' ⊢
  obtain⟨g1,g2,g3⟩:=kB hb'
  simp only[dM,dB] at g1 g3
  simp only[g3,jN,c5,aF,g1,hw,aB,seval,qP]
  exact⟨b',g2,aL.mk (by simp only[aB,seval])⟩
 have hbo:=cH hinv
 rw[fZ] at hinv hbo ⊢
 simp only[aG,hge,aB,seval,qP]
 simp only[hbo,aB,seval,qP]
 have iQ:b2≠c:=cV hne
 have hS:(st.aC b2 (.cells [AV.int .i64 0,AV.int .i64 0,AV.str ⟨#[]⟩,AV.fslice []])) b2≠none:=by rw[aA.aP];simp
 have h1:=dW hinv hS iQ
 rw[aA.aP] at h1
 simp only[h1,c5,aF,aB,seval]
 obtain⟨h2,h3⟩:=fF (o:=.cells [AV.int .i64 k,AV.int .i64 n,AV.str s,aT 4 b ((ts.map fun y=>y).map Tm.av)]) hinv hS iQ
 simp only[dM,dB] at h2 h3
 rw[h2]
 have D:∀o o' o'',aH (((st.aC b2 o).aC c o').aC b2 o'') st:=fun o o' o''=>(((aH.refl _).aC hb2).aC hn2).aC hb2
 simp only[List.map_id'] at h3 ⊢
 exact⟨_,F3 (D _ _ _),b,rfl,rfl,fun h=>(D _ _ _ b).1 (h3 h)⟩
abbrev hH:=zi aZ (zi b7 (zi fV (zi cE (zi bH (zi iV jK)))))
theorem E4(bs:List Bt)(c p:Nat)(t:Tm)(hsm:t.small=true)(st:aA)(hp:p+10≤1099511627776)(hR:bE st c bs p) :
 aD prog 87 [.ptr c 0,t.av] st (Dr bs c p 10 st (fun r=>∃t:Tm,r=t.av)):=by
 obtain⟨k,n,s,ts⟩:=t
 refine aD.mH (aD.fin ?_)
 refine wF [1000000,5] 2 func87 ntmps87 rfl rfl ?_
 intro _
 simp only[aB,seval,hH]
 intro b4 h4
 have h4c:=hR.ne h4
 have hR':=fun o=>hR.aC (o:=o) h4c
 refine(A8 k n s ts _ hsm).mono ?_
 rintro _ _ ⟨b,rfl,rfl,hb⟩
 simp only[c5,aF,aB,↓bG,seval,hH]
 intro b5 h5
 obtain⟨hn5,hb5⟩:=AS h5
 have h54:b5≠b4:=by rintro rfl;rw[aA.aP] at hn5;cases hn5
 have uV:st b5=none:=by rw[aA.aV _ _ h54] at hn5;exact hn5
 have h5c:b5≠c:=hR.ne uV
 have hW4:∀q,((st.aC b4 (.cells [.int .i64 0,.int .i64 0,.str ⟨#[]⟩,.fslice []])).aC c (aK bs q)) b4=some (.cells [.int .i64 0,.int .i64 0,.str ⟨#[]⟩,.fslice []]):=fun q=>by rw[aA.aV _ _ h4c,aA.aP]
 have hdr:∀q Z Y,aH ((((st.aC b4 (.cells [.int .i64 0,.int .i64 0,.str ⟨#[]⟩,.fslice []])).aC c (aK bs q)).aC b5 Z).aC b4 Y) (st.aC c (aK bs q)):=fun q Z Y x=>by
  by_cases e4:x=b4<;>by_cases ec:x=c<;>by_cases e5:x=b5<;>simp_all [aA.aC]
 have e0:(aY (st.aC b4 (.cells [.int .i64 0,.int .i64 0,.str ⟨#[]⟩,.fslice []])) b (ts.map Tm.av)).aC b5 (.cells [.int .i64 k,.int .i64 n,.str s,aT 4 b (ts.map Tm.av)])=cY (st.aC b4 (.cells [.int .i64 0,.int .i64 0,.str ⟨#[]⟩,.fslice []])) b5 b [.int .i64 k,.int .i64 n,.str s] (ts.map Tm.av):=by
  rw[jA hb5];try rfl
 have i0:ts.map Tm.av≠[]→((st.aC b4 (.cells [.int .i64 0,.int .i64 0,.str ⟨#[]⟩,.fslice []])).aC b5 (.cells ([.int .i64 k,.int .i64 n,.str s]++ [aT 4 b (ts.map Tm.av)]))) b=none:=fun h=>by
  rw[aA.aV _ _ (cV (hb5 h))];exact hb h
 have hUc:(st.aC b4 (.cells [.int .i64 0,.int .i64 0,.str ⟨#[]⟩,.fslice []])) c≠none:=by rw[hR' _];simp
 rw[e0]
 have hRk:bE (cY (st.aC b4 (.cells [.int .i64 0,.int .i64 0,.str ⟨#[]⟩,.fslice []])) b5 b [.int .i64 k,.int .i64 n,.str s] (ts.map Tm.av)) c bs p:=by
  unfold bE
  rw[dW i0 hUc h5c.symm]
  exact hR' _
 refine(fQ bs c p (by omega) 50 (by omega) (by omega) _ hRk).mono ?_
 rintro _ _ ⟨j,hj,rfl,rfl⟩
 obtain⟨e1,i1⟩:=iR (o:=aK bs (p+1)) i0 hUc h5c.symm
 rw[e1]
 have hWc:∀q,((st.aC b4 (.cells [.int .i64 0,.int .i64 0,.str ⟨#[]⟩,.fslice []])).aC c (aK bs q)) c≠none:=fun q=>by rw[aA.aP];simp
 have hRq:∀q (hd l:List AV),(l≠[]→(((st.aC b4 (.cells [.int .i64 0,.int .i64 0,.str ⟨#[]⟩,.fslice []])).aC c (aK bs q)).aC b5 (.cells (hd++ [aT 4 b l]))) b=none)→bE (cY ((st.aC b4 (.cells [.int .i64 0,.int .i64 0,.str ⟨#[]⟩,.fslice []])).aC c (aK bs q)) b5 b hd l) c bs q:=fun q hd l hi=>by
  unfold bE
  rw[dW hi (hWc q) h5c.symm,aA.aP]
  try rfl
 clear e0 i0 hRk e1
 simp only[aB,seval]
 refine aW (fun h0=>?_) (fun h0=>?_)
 · simp only[aB,seval,hH]
   refine(jB [0,4,1,2,3] (by simp) (by simp) bs c (p+1) (by omega) _ (hRq _ _ _ i1)).mono ?_
   rintro _ _ ⟨y,_,rfl,rfl⟩
   obtain⟨e1,i1⟩:=iR (o:=aK bs (p+1+1)) i1 (hWc _) h5c.symm
   rw[bM] at e1 i1
   rw[e1]
   have hbo:=cH i1
   obtain⟨e2,i1⟩:=oV (hd':=[.int .i64 y,.int .i64 n,.str s]) i1
   simp only[dM,dB] at e2
   simp only[aF,hbo,aB,seval,hH]
   rw[e2]
   have hbo:=cH i1
   have h4o:=dW i1 (x:=b4) (by rw[hW4];simp) h54.symm
   rw[hW4] at h4o
   simp only[h4o,c5,aB,seval]
   obtain⟨g5,g6⟩:=fF (o:=.cells [.int .i64 (y),.int .i64 (n),.str (s),aT 4 b ((ts).map Tm.av)]) i1 (show((st.aC b4 (.cells [.int .i64 0,.int .i64 0,.str ⟨#[]⟩,.fslice []])).aC c (aK bs (p+1+1))) b4≠none by rw[hW4];simp) h54.symm
   refine⟨b,_,_,g5,g6,d8 _,⟨4,cT _⟩,st.aC c (aK bs (p+1+1)),hdr _ _ _,p+1+1,by omega,by omega,rfl,.mk (y) (n) (s) (ts),?_⟩
   simp only[eC,bT,bF,dQ,d7,eG,a6]
 simp only[aB,seval]
 refine aW (fun h0=>?_) (fun h0=>?_)
 · simp only[aB,seval,hH]
   refine(jB [26,1000,-1000,-1,1] (by simp) (by simp) bs c (p+1) (by omega) _ (hRq _ _ _ i1)).mono ?_
   rintro _ _ ⟨y,_,rfl,rfl⟩
   obtain⟨e1,i1⟩:=iR (o:=aK bs (p+1+1)) i1 (hWc _) h5c.symm
   rw[bM] at e1 i1
   rw[e1]
   have hbo:=cH i1
   obtain⟨e2,i1⟩:=oV (hd':=[.int .i64 k,.int .i64 y,.str s]) i1
   simp only[dM,dB] at e2
   simp only[aF,hbo,aB,seval,hH]
   rw[e2]
   have hbo:=cH i1
   have h4o:=dW i1 (x:=b4) (by rw[hW4];simp) h54.symm
   rw[hW4] at h4o
   simp only[h4o,c5,aB,seval]
   obtain⟨g5,g6⟩:=fF (o:=.cells [.int .i64 (k),.int .i64 (y),.str (s),aT 4 b ((ts).map Tm.av)]) i1 (show((st.aC b4 (.cells [.int .i64 0,.int .i64 0,.str ⟨#[]⟩,.fslice []])).aC c (aK bs (p+1+1))) b4≠none by rw[hW4];simp) h54.symm
   refine⟨b,_,_,g5,g6,d8 _,⟨4,cT _⟩,st.aC c (aK bs (p+1+1)),hdr _ _ _,p+1+1,by omega,by omega,rfl,.mk (k) (y) (s) (ts),?_⟩
   simp only[eC,bT,bF,dQ,d7,eG,a6]
 simp only[aB,seval]
 refine aW (fun h0=>?_) (fun h0=>?_)
 · simp only[aB,seval,hH]
   refine(nJ [⟨#[]⟩,⟨#[88]⟩,⟨#[116,111,111,108,111,110,103]⟩,⟨#[195,169]⟩,⟨#[97]⟩] (by simp) (by simp) bs c (p+1) (by omega) _ (hRq _ _ _ i1)).mono ?_
   rintro _ _ ⟨y,_,rfl,rfl⟩
   obtain⟨e1,i1⟩:=iR (o:=aK bs (p+1+1)) i1 (hWc _) h5c.symm
   rw[bM] at e1 i1
   rw[e1]
   have hbo:=cH i1
   obtain⟨e2,i1⟩:=oV (hd':=[.int .i64 k,.int .i64 n,.str y]) i1
   simp only[dM,dB] at e2
   simp only[aF,hbo,aB,seval,hH]
   rw[e2]
   have hbo:=cH i1
   have h4o:=dW i1 (x:=b4) (by rw[hW4];simp) h54.symm
   rw[hW4] at h4o
   simp only[h4o,c5,aB,seval]
   obtain⟨g5,g6⟩:=fF (o:=.cells [.int .i64 (k),.int .i64 (n),.str (y),aT 4 b ((ts).map Tm.av)]) i1 (show((st.aC b4 (.cells [.int .i64 0,.int .i64 0,.str ⟨#[]⟩,.fslice []])).aC c (aK bs (p+1+1))) b4≠none by rw[hW4];simp) h54.symm
   refine⟨b,_,_,g5,g6,d8 _,⟨4,cT _⟩,st.aC c (aK bs (p+1+1)),hdr _ _ _,p+1+1,by omega,by omega,rfl,.mk (k) (n) (y) (ts),?_⟩
   simp only[eC,bT,bF,dQ,d7,eG,a6]
 simp only[aB,seval]
 refine aW (fun h0=>?_) (fun h0=>?_)
 · simp only[aB,seval]
   refine fH (σ:=Nat×List Tm) [1000000,5] [4,5,10] (fun x=>(x.2.map Tm.av≠[]→(aA.aC ((st.aC b4 (.cells [.int .i64 0,.int .i64 0,.str ⟨#[]⟩,.fslice []])).aC c (aK bs (p+1))) b5 (.cells ([.int .i64 k,.int .i64 n,.str s]++ [aT 4 x.1 (x.2.map Tm.av)]))) x.1=none)) (fun _=>[]) (fun x=>cY ((st.aC b4 (.cells [.int .i64 0,.int .i64 0,.str ⟨#[]⟩,.fslice []])).aC c (aK bs (p+1))) b5 x.1 [.int .i64 k,.int .i64 n,.str s] (x.2.map Tm.av)) (fun x=>5 - x.2.length) (by decide +kernel) ⟨(b,ts),i1,aL.mk (by simp only[aB,seval])⟩ ?_
   rintro⟨b,acc⟩ i1
   simp only at i1
   have hbo:=cH i1
   have haL:=t7 (w:=4) (b:=b) (l:=acc.map Tm.av) zR
   simp only[hbo,iM,haL,aG,aB,seval,hH]
   refine aW (fun h1=>?_) (fun h1=>?_)
   · simp only[bK] at h1
     have cO:(acc.map Tm.av).length≤4:=by rw[aG];omega
     simp only[aB,seval]
     refine k0 [(0,1),(1,1),(2,0),(3,1),(4,0),(5,1),(6,2)] [0,1,3,5] (g7.aC b5 (.cells [.int .i64 k,.int .i64 n,.str s,aT 4 b (acc.map Tm.av)])) mixed (by decide +kernel) (by decide +kernel) (by decide +kernel) rfl (eQ hbo) ?_
     simp only[iM,aB,seval,hH]
     refine(oI 1 _).to ?_
     simp only[aQ,aR,bW,aB,seval,hH]
     refine⟨eQ hbo,?_⟩
     refine eH cS gG gH rfl rfl (eR (aR _) (bA _)) (cT _) i1 (by simp only[bD,bN];omega) (by simp only[bD,bN];omega) (fun b' hb'=>?_)
     rw[show acc.map Tm.av++ [(Tm.mk 2 1 ⟨#[]⟩ []).av]=(acc++ [Tm.mk 2 1 ⟨#[]⟩ []]).map Tm.av by simp] at hb' ⊢
     obtain⟨g1,g2,g3⟩:=kB hb'
     simp only[dM,dB] at g1 g3
     simp only[aF,c5,jN,aB,seval,hH]
     refine⟨eQ g3,?_⟩
     simp only[g3,g1,aB,seval]
     refine⟨(b',acc++ [Tm.mk 2 1 ⟨#[]⟩ []]),by simp only[dI,bD,bN];omega,g2,aL.mk (by simp only[aB,seval])⟩
   · simp only[aF,hbo,c5,aB,seval,hH]
     have hbo:=cH i1
     have h4o:=dW i1 (x:=b4) (by rw[hW4];simp) h54.symm
     rw[hW4] at h4o
     simp only[h4o,aB,seval]
     obtain⟨g5,g6⟩:=fF (o:=.cells [.int .i64 (k),.int .i64 (n),.str (s),aT 4 b ((acc).map Tm.av)]) i1 (show((st.aC b4 (.cells [.int .i64 0,.int .i64 0,.str ⟨#[]⟩,.fslice []])).aC c (aK bs (p+1))) b4≠none by rw[hW4];simp) h54.symm
     refine⟨b,_,_,g5,g6,d8 _,⟨4,cT _⟩,st.aC c (aK bs (p+1)),hdr _ _ _,p+1,by omega,by omega,rfl,.mk (k) (n) (s) (acc),?_⟩
     simp only[eC,bT,bF,dQ,d7,eG,a6]
 simp only[aB,seval]
 refine aW (fun h0=>?_) (fun h0=>?_)
 · simp only[aB,seval]
   have hW5:∀Z,((st.aC b4 (.cells [.int .i64 0,.int .i64 0,.str ⟨#[]⟩,.fslice []])).aC c (aK bs (p+1))).aC b5 Z b4=some (.cells [.int .i64 0,.int .i64 0,.str ⟨#[]⟩,.fslice []]):=fun Z=>by rw[aA.aV _ _ h54.symm,hW4]
   refine fW (σ:=Tm) [1000000,5] [4,5] (List.range 30) (fun _ _=>True) (fun i _=>[(6,.int .i64 i)]) (fun _ u=>((st.aC b4 (.cells [.int .i64 0,.int .i64 0,.str ⟨#[]⟩,.fslice []])).aC c (aK bs (p+1))).aC b5 (.cells u.av.cells)) (by decide +kernel)
    ⟨.mk k n s ts,trivial,?_⟩ (fun i x u hx hlt b9 aBV _=>?_) (fun u hge _=>?_)
   · rw[a6]
     exact(RH i1 (d8 _) ⟨4,cT _⟩).trans (c7.fC (by simp only[aB,↓bG,seval]))
   · rw[wI] at hlt
     have B6:decide ((i:Int)<30)=true:=by simp;omega
     have hw:=bO (n:=(i:Int)+1)
     simp only[B6,aO,aQ,aR,bW,cD (aO _),cC (aQ _),aB,seval,hH]
     refine(jP ⟨#[115]⟩ [u] (by simp) _).to ?_
     simp only[bM,aF,hw,aO,bA,aB,seval,hH]
     exact⟨.mk 3 0 ⟨#[115]⟩ [u],aL.mk (by simp only[aB,seval])⟩
   · have aB3:decide ((29:Int)+1<30)=false:=rfl
     have h4o:=hW5 (.cells u.av.cells)
     simp only[wI,aF,h4o,aO,bA,cD (aO _),cC (aQ _),aB,↓bG,seval,hH]
     exact⟨0,[],_,rfl,by simp,by simp,⟨4,by simp⟩,st.aC c (aK bs (p+1)),hdr _ _ _,p+1,by omega,by omega,rfl,u,Tm.uN u 0⟩
 · simp only[aB,seval,hH]
   have hbo:=cH i1
   have h4o:=dW i1 (x:=b4) (by rw[hW4];simp) h54.symm
   rw[hW4] at h4o
   simp only[aF,hbo,h4o,c5,aB,seval,hH]
   obtain⟨g5,g6⟩:=fF (o:=.cells [.int .i64 (k),.int .i64 (n),.str (s),aT 4 b ((ts).map Tm.av)]) i1 (show((st.aC b4 (.cells [.int .i64 0,.int .i64 0,.str ⟨#[]⟩,.fslice []])).aC c (aK bs (p+1))) b4≠none by rw[hW4];simp) h54.symm
   refine⟨b,_,_,g5,g6,d8 _,⟨4,cT _⟩,st.aC c (aK bs (p+1)),hdr _ _ _,p+1,by omega,by omega,rfl,.mk (k) (n) (s) (ts),?_⟩
   simp only[eC,bT,bF,dQ,d7,eG,a6]
def tO(t:Tm):Prop:= -9223372036854775808≤t.n∧t.n≤9223372036854775807∧t.s.size≤1048576
def Nb(t:Tm):Prop:=tO t∧∀x∈t.ts,tO x
abbrev En (t:Tm):Prop:=Dn t∧Nb t
theorem sL{k n:Int}{s:ByteArray}{ts:List Tm}(h: -1000≤n∧n≤1000∧s.size≤1000):tO (.mk k n s ts):=by
 obtain⟨h1,h2,h3⟩:=h
 exact⟨by show _≤n;omega,by show n≤_;omega,by show s.size≤_;omega⟩
theorem F9{n:Int}(h:0≤n∧n≤100):En (vr n):=⟨xK n,sL ⟨by omega,by omega,by decide⟩,fun x hx=>by cases hx⟩
theorem r6{k n:Int}{s:ByteArray}{ts:List Tm}(hk:k≠1)(hl:ts.length≤1048576)(h:∀x∈ts,En x)(hn: -1000≤n∧n≤1000∧s.size≤1000):En (.mk k n s ts):=⟨nM hk hl fun x hx=>(h x hx).1,sL hn,fun x hx=>(h x hx).2.1⟩
def Ng(t:Tm):Prop:=t.small=true∧Nb t
theorem yR{k n k' n':Int}{s s':ByteArray}{ts:List Tm}(h:(Tm.mk k n s ts).small=true):(Tm.mk k' n' s' ts).small=true:=by
 simp only[Tm.small] at h ⊢
 exact h
theorem C4{k n:Int}{s:ByteArray}{ts:List Tm}(hl:ts.length≤1048576)(h:∀x∈ts,x.small=true):(Tm.mk k n s ts).small=true:=by
 simp only[Tm.small,tE,bV,bK,dY]
 exact⟨hl,h⟩
def AA(r:AV):Prop:=∃t:Tm,En t∧r=t.av
abbrev gT:=zi aZ (zi cB (zi b7 (zi fV (zi cE (zi zA (zi bH (zi iV jK)))))))
theorem BA(bs:List Bt)(c:Nat):∀(d p:Nat) (st:aA),d≤10→p+4 ^ (d+2)≤1099511627776→bE st c bs p→aD prog 60 [.ptr c 0,.int .i64 (d:Int)] st (Dr bs c p (4 ^ (d+2)) st AA)
 | d,p,st,hd,hp,hR=>by
  have IH:=fun(d':Nat) (hlt:d'<d) p st=>BA bs c d' p st
  refine aD.mH (aD.fin ?_)
  refine wF [1000000,5] 2 func60 ntmps60 rfl rfl ?_
  intro _
  simp only[aB,seval,gT]
  intro b4 h4
  have h4c:=hR.ne h4
  have hR':=fun o=>hR.aC (o:=o) h4c
  have CC:64≤4 ^ (d+2)∨d=0:=by
   cases d with
   | zero=>exact .inr rfl
   | succ d=>
    left
    have:4 ^ (d+1+2)=64*4 ^ d:=by rw[show d+1+2=d+3 by omega,Nat.pow_add];omega
    have:=Nat.one_le_two_pow (n:=d);have:1≤4 ^ d:=Nat.one_le_pow _ _ (by omega);omega
  have CD:16≤4 ^ (d+2):=by rcases CC with h | rfl<;>omega
  have eS:∀(o o':AO) (q:Nat) (t:Tm),p≤q→q≤p+4 ^ (d+2)→En t→∃b l s0,((st.aC b4 o).aC c (aK bs q)).aC b4 o'=aY s0 b l∧(l≠[]→s0 b=none)∧(∀e∈l,e.bP=false)∧eW l∧∃s2,aH s0 s2∧Dr bs c p (4 ^ (d+2)) st AA (AV.fin b l t.av) s2:=fun o o' q t h1 h2 h3=>by
   refine⟨0,[],_,rfl,by simp,by simp,⟨4,by simp⟩,st.aC c (aK bs q),?_,q,h1,h2,rfl,t,h3,Tm.uN t 0⟩
   intro x
   by_cases e4:x=b4<;>by_cases ec:x=c<;>simp_all [aA.aC]
  refine cU (fun h=>?_) (fun h=>?_)
  case refine_2=>
   simp only[h,aB,seval]
   have hRq:=hR' (.cells [.int .i64 0,.int .i64 0,.str ⟨#[]⟩,.fslice []])
   have hq:p+1≤1099511627776:=by omega
   have:=h4c.symm
   refine(fQ bs c (p) (by omega) 4 (by omega) (by omega) _ hRq).mono ?_
   rintro _ _ ⟨k,hk,rfl,rfl⟩
   try rw[bM]
   simp only[aB,seval]
   refine aW (fun h1=>?_) (fun h1=>?_)
   · simp only[aB,seval]
     refine(fQ bs c (p+1) (by omega) 4 (by omega) (by omega) _ bE.new).mono ?_
     rintro _ _ ⟨k2,hk2,rfl,rfl⟩
     rw[bM]
     simp only[aB,seval]
     refine(uH (k2:Int) _).to ?_
     simp only[aO,bA,cD (aO _),cC (aQ _),aF,h4c,aB,seval,gT]
     exact eS _ _ _ (vr k2) (by omega) (by omega) (F9 (by omega))
   simp only[aB,seval]
   refine aW (fun h2=>?_) (fun h2=>?_)
   · simp only[aB,seval,gT]
     refine(jB [0,1,7,-3,999,-999] (by simp) (by simp) bs c (p+1) (by omega) _ bE.new).mono ?_
     rintro _ _ ⟨x,hx,rfl,rfl⟩
     rw[bM]
     simp only[aB,seval]
     refine(oI x _).to ?_
     simp only[aO,bA,cD (aO _),cC (aQ _),aF,h4c,aB,seval,gT]
     exact eS _ _ _ (.mk 2 x ⟨#[]⟩ []) (by omega) (by omega) (r6 (by omega) (by simp) (by simp) (by simp only[dS,gB,fU] at hx;exact⟨by omega,by omega,by decide⟩))
   · simp only[aB,seval,gT]
     refine(nJ [⟨#[97]⟩,⟨#[98]⟩,⟨#[110,105,108]⟩,⟨#[91,93]⟩,⟨#[102,111,111]⟩,⟨#[43]⟩] (by simp) (by simp) bs c (p+1) (by omega) _ bE.new).mono ?_
     rintro _ _ ⟨x,hx,rfl,rfl⟩
     rw[bM]
     simp only[aB,seval]
     refine(jP x [] (by simp) _).to ?_
     simp only[aO,bA,cD (aO _),cC (aQ _),aF,h4c,aB,seval,gT]
     exact eS _ _ _ (.mk 3 0 x []) (by omega) (by omega) (r6 (by omega) (by simp) (by simp) ⟨by omega,by omega,by revert hx;revert x;decide⟩)
  simp only[h,aB,seval]
  have hd2:2≤d:=by simp at h;omega
  have hwx:∀z:Int,z=(d:Int)→IntKind.i64.wrap (z - 1)=z - 1:=fun z hz=>wrap64 (by omega) (by omega)
  obtain⟨d',rfl⟩:∃d',d=d'+1:=⟨d - 1,by omega⟩
  have hpd:4 ^ (d'+1+2)=4*4 ^ (d'+2):=by rw[show d'+1+2=d'+2+1 by omega,Nat.pow_succ];omega
  have hp4:4≤4 ^ (d'+2):=by have:1≤4 ^ d':=Nat.one_le_pow _ _ (by omega);rw[Nat.pow_add];omega
  have hwd:IntKind.i64.wrap (((d'+1:Nat):Int) - 1)=(d':Int):=by rw[wrap64 (by omega) (by omega)];omega
  have p9:IntKind.i64.wrap ((d':Int)+1 - 1)=(d':Int):=by rw[wrap64 (by omega) (by omega)];omega
  have IHd:=fun p st=>IH d' (Nat.lt_succ_self _) p st
  generalize hM:4 ^ (d'+2)=M at *
  rw[hpd] at hp CD
  refine(fQ bs c p (by omega) 4 (by omega) (by omega) _ (hR' _)).mono ?_
  rintro _ _ ⟨k,hk,rfl,rfl⟩
  simp only[aB,seval]
  refine aW (fun h1=>?_) (fun h1=>?_)
  · have hRq:bE ((st.aC b4 (.cells [.int .i64 0,.int .i64 0,.str ⟨#[]⟩,.fslice []])).aC c (aK bs (p+1))) c bs (p+1):=bE.new
    simp only[aB,seval]
    refine(fQ bs c (p+1) (by omega) 4 (by omega) (by omega) _ hRq).mono ?_
    rintro _ _ ⟨k,hk,rfl,rfl⟩
    try rw[bM]
    simp only[aB,seval]
    refine aW (fun h1=>?_) (fun h1=>?_)
    · simp only[aB,seval]
      refine(fQ bs c (p+1+1) (by omega) 4 (by omega) (by omega) _ bE.new).mono ?_
      rintro _ _ ⟨k2,hk2,rfl,rfl⟩
      rw[bM]
      simp only[aB,seval]
      refine(uH (k2:Int) _).to ?_
      simp only[aO,bA,cD (aO _),cC (aQ _),aF,h4c,aB,seval,gT]
      exact eS _ _ _ (vr k2) (by omega) (by omega) (F9 (by omega))
    simp only[aB,seval]
    refine aW (fun h2=>?_) (fun h2=>?_)
    · simp only[aB,seval,gT]
      refine(jB [0,1,7,-3,999,-999] (by simp) (by simp) bs c (p+1+1) (by omega) _ bE.new).mono ?_
      rintro _ _ ⟨x,hx,rfl,rfl⟩
      rw[bM]
      simp only[aB,seval]
      refine(oI x _).to ?_
      simp only[aO,bA,cD (aO _),cC (aQ _),aF,h4c,aB,seval,gT]
      exact eS _ _ _ (.mk 2 x ⟨#[]⟩ []) (by omega) (by omega) (r6 (by omega) (by simp) (by simp) (by simp only[dS,gB,fU] at hx;exact⟨by omega,by omega,by decide⟩))
    · simp only[aB,seval,gT]
      refine(nJ [⟨#[97]⟩,⟨#[98]⟩,⟨#[110,105,108]⟩,⟨#[91,93]⟩,⟨#[102,111,111]⟩,⟨#[43]⟩] (by simp) (by simp) bs c (p+1+1) (by omega) _ bE.new).mono ?_
      rintro _ _ ⟨x,hx,rfl,rfl⟩
      rw[bM]
      simp only[aB,seval]
      refine(jP x [] (by simp) _).to ?_
      simp only[aO,bA,cD (aO _),cC (aQ _),aF,h4c,aB,seval,gT]
      exact eS _ _ _ (.mk 3 0 x []) (by omega) (by omega) (r6 (by omega) (by simp) (by simp) ⟨by omega,by omega,by revert hx;revert x;decide⟩)
  · simp only[aB,seval]
    refine(fQ bs c (p+1) (by omega) 3 (by omega) (by omega) _ bE.new).mono ?_
    rintro _ _ ⟨k2,hk2,rfl,rfl⟩
    rw[bM]
    simp only[aB,seval]
    refine aW (fun h2=>?_) (fun h2=>?_)
    · simp only[p9,aB,seval]
      refine(IHd (p+1+1) _ (by omega) (by omega) bE.new).mono ?_
      rintro _ _ ⟨p1,hp1,CB,rfl,t1,ht1,rfl⟩
      rw[bM]
      simp only[p9,aB,seval]
      refine(IHd p1 _ (by omega) (by omega) bE.new).mono ?_
      rintro _ _ ⟨p2,hp2,aCF,rfl,t2,ht2,rfl⟩
      rw[bM]
      simp only[aB,seval,gT]
      refine(jP ⟨#[46]⟩ [t1,t2] (by simp) _).to ?_
      simp only[aO,bA,cD (aO _),cC (aQ _),aF,h4c,aB,seval,gT]
      exact eS _ _ _ (.mk 3 0 ⟨#[46]⟩ [t1,t2]) (by omega) (by omega) (r6 (by omega) (by simp) (by intro x hx;simp only[dS,gB,fU] at hx;rcases hx with rfl | rfl<;>assumption) ⟨by omega,by omega,by decide⟩)
    · simp only[aB,seval,gT]
      refine(nJ [⟨#[102]⟩,⟨#[103]⟩,⟨#[115]⟩,⟨#[43]⟩,⟨#[61]⟩,⟨#[105,115]⟩,⟨#[102,111,111]⟩] (by simp) (by simp) bs c (p+1+1) (by omega) _ bE.new).mono ?_
      rintro _ _ ⟨x,hxn,rfl,rfl⟩
      have hxs:x.size≤1000:=by clear hR;revert hxn;revert x;decide
      rw[bM]
      simp only[aB,seval]
      refine(E7 x _).to ?_
      simp only[aF,aB,↓bG,seval,gT]
      intro b5 h5
      have h54:b5≠b4:=by rintro rfl;simp [aA.aC,h4c] at h5
      have h5c:b5≠c:=by rintro rfl;simp [aA.aC] at h5
      have hn5:st b5=none:=by rw[aA.aV _ _ h5c,aA.aV _ _ h54] at h5;exact h5
      refine(jB [2,1,3,2] (by simp) (by simp) bs c (p+1+1+1) (by omega) _ (bE.new.aC h5c)).mono ?_
      rintro _ _ ⟨y,hy,rfl,rfl⟩
      obtain⟨n,rfl,hn⟩:∃n:Nat,y=n∧n≤3:=by
       simp only[dS,gB,fU] at hy
       rcases hy with rfl | rfl | rfl | rfl
       · exact⟨2,rfl,by omega⟩
       · exact⟨1,rfl,by omega⟩
       · exact⟨3,rfl,by omega⟩
       · exact⟨2,rfl,by omega⟩
      rw[aA.DS h5c,aA.mT _ _ _ h5c]
      have hW4:∀q,((st.aC b4 (.cells [.int .i64 0,.int .i64 0,.str ⟨#[]⟩,.fslice []])).aC c (aK bs q)) b4=some (.cells [.int .i64 0,.int .i64 0,.str ⟨#[]⟩,.fslice []]):=fun q=>by rw[aA.aV _ _ h4c,aA.aP]
      simp only[aB,seval]
      refine fH (σ:=Nat×Nat×List Tm×Nat) [1000000,5] [0,1,4,5]
       (fun s=>(s.2.2.1.map Tm.av≠[]→(aA.aC ((st.aC b4 (.cells [.int .i64 0,.int .i64 0,.str ⟨#[]⟩,.fslice []])).aC c (aK bs s.2.2.2)) b5 (.cells ([.int .i64 3,.int .i64 0,.str x]++ [aT 4 s.2.1 (s.2.2.1.map Tm.av)]))) s.2.1=none)∧s.2.2.1.length+s.1≤3∧(∀t∈s.2.2.1,En t)∧p≤s.2.2.2∧s.2.2.2+s.1*M≤p+4*M)
       (fun s=>[(6,.int .i64 s.1)]) (fun s=>cY ((st.aC b4 (.cells [.int .i64 0,.int .i64 0,.str ⟨#[]⟩,.fslice []])).aC c (aK bs s.2.2.2)) b5 s.2.1 [.int .i64 3,.int .i64 0,.str x] (s.2.2.1.map Tm.av)) (fun s=>s.1) (by decide +kernel)
       ⟨(n,0,[],p+1+1+1+1),⟨fun h=>absurd rfl h,by simpa using hn,by simp,by simp only;omega,?_⟩,aL.mk (by simp only[aB,seval])⟩ ?_
      · simp only
        have:=lA M hn
        omega
      rintro⟨i,b,acc,q⟩ ⟨i1,i2,i3,i4,i5⟩
      simp only at i1 i2 i3 i4 i5
      simp only[aB,seval]
      refine aW (fun h3=>?_) (fun h3=>?_)
      · simp only[bK] at h3
        have hbo:=cH i1
        have hSc:((st.aC b4 (.cells [.int .i64 0,.int .i64 0,.str ⟨#[]⟩,.fslice []])).aC c (aK bs q)) c≠none:=by rw[aA.aP];simp
        have hRk:bE (cY ((st.aC b4 (.cells [.int .i64 0,.int .i64 0,.str ⟨#[]⟩,.fslice []])).aC c (aK bs q)) b5 b [.int .i64 3,.int .i64 0,.str x] (acc.map Tm.av)) c bs q:=by
         unfold bE
         rw[dW i1 hSc h5c.symm,aA.aP]
         try rfl
        have hM1:M≤i*M:=by have:=lA M (show 1≤i by omega);omega
        have hMi:(i - 1)*M+M=i*M:=by rw[←m7];congr 1;omega
        have hwi:IntKind.i64.wrap ((i:Int) - 1)=((i - 1:Nat):Int):=by rw[wrap64 (by omega) (by omega)];omega
        have cO:(acc.map Tm.av).length≤3:=by rw[aG];omega
        simp only[aB,seval]
        refine k0 [(0,1),(1,1),(2,1),(3,1),(4,1),(5,0),(6,1),(7,0),(8,1),(9,2)] [0,1,2,3,4,6,8] (g7.aC b5 (.cells [.int .i64 3,.int .i64 0,.str x,aT 4 b (acc.map Tm.av)])) mixed (by decide +kernel) (by decide +kernel) (by decide +kernel) rfl (eQ hbo) ?_
        simp only[p9,iM,aB,seval,gT]
        refine(IHd q _ (by omega) (by omega) hRk).mono ?_
        rintro _ _ ⟨q',hq1,hq2,rfl,t,ht,rfl⟩
        obtain⟨e1,i1'⟩:=iR (o:=aK bs q') i1 hSc h5c.symm
        rw[bM] at e1 i1'
        rw[e1]
        simp only[aQ,aR,bW,aB,seval,gT]
        refine⟨eQ (cH i1'),?_⟩
        refine eH cS gG gH rfl rfl (eR (aR _) (bA _)) (cT _) i1' (by simp only[bD,bN];omega) (by simp only[bD,bN];omega) (fun b' hb'=>?_)
        rw[show acc.map Tm.av++ [t.av]=(acc++ [t]).map Tm.av by simp] at hb' ⊢
        obtain⟨g1,g2,g3⟩:=kB hb'
        simp only[dM,dB] at g1 g3
        simp only[aF,c5,jN,aB,seval,gT]
        refine⟨eQ g3,?_⟩
        simp only[g3,g1,hwi,aB,seval]
        refine⟨(i - 1,b',acc++ [t],q'),by simp only;omega,⟨g2,by simp only[dI,bD,bN];omega,fun u hu=>?_,by simp only;omega,by simp only;omega⟩,aL.mk (by simp only[aB,seval])⟩
        rcases iY.1 hu with hu | hu
        · exact i3 u hu
        · simp only[dS,gB,fU] at hu
          subst hu
          exact ht
      · have hbo:=cH i1
        have h4o:=dW i1 (x:=b4) (by rw[hW4];simp) h54.symm
        rw[hW4] at h4o
        simp only[aF,hbo,h4o,c5,aB,seval,gT]
        obtain⟨g5,g6⟩:=fF (o:=.cells [.int .i64 3,.int .i64 0,.str x,aT 4 b (acc.map Tm.av)]) i1 (show((st.aC b4 (.cells [.int .i64 0,.int .i64 0,.str ⟨#[]⟩,.fslice []])).aC c (aK bs q)) b4≠none by rw[hW4];simp) h54.symm
        refine⟨b,_,_,g5,g6,d8 _,⟨4,cT _⟩,st.aC c (aK bs q),?_,q,i4,by omega,rfl,.mk 3 0 x acc,r6 (by omega) (by omega) i3 ⟨by omega,by omega,hxs⟩,?_⟩
        · intro y
          by_cases e4:y=b4<;>by_cases ec:y=c<;>by_cases e5:y=b5<;>simp_all [aA.aC]
        · simp only[eC,bT,bF,dQ,d7,eG,a6]
termination_by d=>d
decreasing_by exact hlt
abbrev S8:=zi aZ (zi fV (zi bH iV))
theorem xD(bs:List Bt)(c p:Nat)(st:aA)(hp:p+5000≤1099511627776)(hR:bE st c bs p):aD prog 88 [.ptr c 0] st (Dr bs c p 5000 st AA):=by
 refine aD.mH ?_
 refine wF [1000000] 1 func88 ntmps88 rfl rfl ?_
 intro _
 simp only[aB,seval,S8]
 intro b hb
 have hbc:=hR.ne hb
 refine(jB [3,2,4,1] (by simp) (by simp) bs c p (by omega) _ (hR.aC hbc)).mono ?_
 rintro _ _ ⟨y,hy,rfl,rfl⟩
 obtain⟨n,rfl,hn⟩:∃n:Nat,y=n∧n≤4:=by
  simp only[dS,gB,fU] at hy
  rcases hy with rfl | rfl | rfl | rfl
  · exact⟨3,rfl,by omega⟩
  · exact⟨2,rfl,by omega⟩
  · exact⟨4,rfl,by omega⟩
  · exact⟨1,rfl,by omega⟩
 have hpw:4 ^ (n+2)≤4096:=by
  have:=tN (n:=4) (by omega) (show n+2≤6 by omega)
  simpa using this
 simp only[aB,seval]
 refine(BA bs c n (p+1) _ (by omega) (by omega) bE.new).mono ?_
 rintro _ _ ⟨p1,hp1,CB,rfl,t1,ht1,rfl⟩
 rw[bM]
 simp only[aO,bA,cD (aO _),cC (aQ _),aF,hbc,aB,seval,S8]
 refine⟨st.aC c (aK bs p1),?_,p1,by omega,by omega,rfl,t1,ht1,rfl⟩
 intro x
 by_cases e4:x=b<;>by_cases ec:x=c<;>simp_all [aA.aC]
abbrev hJ:=zi aZ (zi b7 (zi fV (zi cE (zi bH (zi iV jK)))))
theorem uG(bs:List Bt)(c p:Nat)(t:Tm)(hN:Ng t)(st:aA)(hp:p+10≤1099511627776)(hR:bE st c bs p) :
 aD prog 87 [.ptr c 0,t.av] st (Dr bs c p 10 st (fun r=>∃u:Tm,Ng u∧r=u.av)):=by
 have hsm:=hN.1
 obtain⟨k,n,s,ts⟩:=t
 refine aD.mH (aD.fin ?_)
 refine wF [1000000,5] 2 func87 ntmps87 rfl rfl ?_
 intro _
 simp only[aB,seval,hJ]
 intro b4 h4
 have h4c:=hR.ne h4
 have hR':=fun o=>hR.aC (o:=o) h4c
 refine(A8 k n s ts _ hsm).mono ?_
 rintro _ _ ⟨b,rfl,rfl,hb⟩
 simp only[c5,aF,aB,↓bG,seval,hJ]
 intro b5 h5
 obtain⟨hn5,hb5⟩:=AS h5
 have h54:b5≠b4:=by rintro rfl;rw[aA.aP] at hn5;cases hn5
 have uV:st b5=none:=by rw[aA.aV _ _ h54] at hn5;exact hn5
 have h5c:b5≠c:=hR.ne uV
 have hW4:∀q,((st.aC b4 (.cells [.int .i64 0,.int .i64 0,.str ⟨#[]⟩,.fslice []])).aC c (aK bs q)) b4=some (.cells [.int .i64 0,.int .i64 0,.str ⟨#[]⟩,.fslice []]):=fun q=>by rw[aA.aV _ _ h4c,aA.aP]
 have hdr:∀q Z Y,aH ((((st.aC b4 (.cells [.int .i64 0,.int .i64 0,.str ⟨#[]⟩,.fslice []])).aC c (aK bs q)).aC b5 Z).aC b4 Y) (st.aC c (aK bs q)):=fun q Z Y x=>by
  by_cases e4:x=b4<;>by_cases ec:x=c<;>by_cases e5:x=b5<;>simp_all [aA.aC]
 have e0:(aY (st.aC b4 (.cells [.int .i64 0,.int .i64 0,.str ⟨#[]⟩,.fslice []])) b (ts.map Tm.av)).aC b5 (.cells [.int .i64 k,.int .i64 n,.str s,aT 4 b (ts.map Tm.av)])=cY (st.aC b4 (.cells [.int .i64 0,.int .i64 0,.str ⟨#[]⟩,.fslice []])) b5 b [.int .i64 k,.int .i64 n,.str s] (ts.map Tm.av):=by
  rw[jA hb5];try rfl
 have i0:ts.map Tm.av≠[]→((st.aC b4 (.cells [.int .i64 0,.int .i64 0,.str ⟨#[]⟩,.fslice []])).aC b5 (.cells ([.int .i64 k,.int .i64 n,.str s]++ [aT 4 b (ts.map Tm.av)]))) b=none:=fun h=>by
  rw[aA.aV _ _ (cV (hb5 h))];exact hb h
 have hUc:(st.aC b4 (.cells [.int .i64 0,.int .i64 0,.str ⟨#[]⟩,.fslice []])) c≠none:=by rw[hR' _];simp
 rw[e0]
 have hRk:bE (cY (st.aC b4 (.cells [.int .i64 0,.int .i64 0,.str ⟨#[]⟩,.fslice []])) b5 b [.int .i64 k,.int .i64 n,.str s] (ts.map Tm.av)) c bs p:=by
  unfold bE
  rw[dW i0 hUc h5c.symm]
  exact hR' _
 refine(fQ bs c p (by omega) 50 (by omega) (by omega) _ hRk).mono ?_
 rintro _ _ ⟨j,hj,rfl,rfl⟩
 obtain⟨e1,i1⟩:=iR (o:=aK bs (p+1)) i0 hUc h5c.symm
 rw[e1]
 have hWc:∀q,((st.aC b4 (.cells [.int .i64 0,.int .i64 0,.str ⟨#[]⟩,.fslice []])).aC c (aK bs q)) c≠none:=fun q=>by rw[aA.aP];simp
 have hRq:∀q (hd l:List AV),(l≠[]→(((st.aC b4 (.cells [.int .i64 0,.int .i64 0,.str ⟨#[]⟩,.fslice []])).aC c (aK bs q)).aC b5 (.cells (hd++ [aT 4 b l]))) b=none)→bE (cY ((st.aC b4 (.cells [.int .i64 0,.int .i64 0,.str ⟨#[]⟩,.fslice []])).aC c (aK bs q)) b5 b hd l) c bs q:=fun q hd l hi=>by
  unfold bE
  rw[dW hi (hWc q) h5c.symm,aA.aP]
  try rfl
 clear e0 i0 hRk e1
 simp only[aB,seval]
 refine aW (fun h0=>?_) (fun h0=>?_)
 · simp only[aB,seval,hJ]
   refine(jB [0,4,1,2,3] (by simp) (by simp) bs c (p+1) (by omega) _ (hRq _ _ _ i1)).mono ?_
   rintro _ _ ⟨y,hyl,rfl,rfl⟩
   obtain⟨e1,i1⟩:=iR (o:=aK bs (p+1+1)) i1 (hWc _) h5c.symm
   rw[bM] at e1 i1
   rw[e1]
   have hbo:=cH i1
   obtain⟨e2,i1⟩:=oV (hd':=[.int .i64 y,.int .i64 n,.str s]) i1
   simp only[dM,dB] at e2
   simp only[aF,hbo,aB,seval,hJ]
   rw[e2]
   have hbo:=cH i1
   have h4o:=dW i1 (x:=b4) (by rw[hW4];simp) h54.symm
   rw[hW4] at h4o
   simp only[h4o,c5,aB,seval]
   obtain⟨g5,g6⟩:=fF (o:=.cells [.int .i64 (y),.int .i64 (n),.str (s),aT 4 b ((ts).map Tm.av)]) i1 (show((st.aC b4 (.cells [.int .i64 0,.int .i64 0,.str ⟨#[]⟩,.fslice []])).aC c (aK bs (p+1+1))) b4≠none by rw[hW4];simp) h54.symm
   refine⟨b,_,_,g5,g6,d8 _,⟨4,cT _⟩,st.aC c (aK bs (p+1+1)),hdr _ _ _,p+1+1,by omega,by omega,rfl,.mk (y) (n) (s) (ts),⟨yR hN.1,hN.2⟩,?_⟩
   simp only[eC,bT,bF,dQ,d7,eG,a6]
 simp only[aB,seval]
 refine aW (fun h0=>?_) (fun h0=>?_)
 · simp only[aB,seval,hJ]
   refine(jB [26,1000,-1000,-1,1] (by simp) (by simp) bs c (p+1) (by omega) _ (hRq _ _ _ i1)).mono ?_
   rintro _ _ ⟨y,hyl,rfl,rfl⟩
   have hyl:=(show ∀z∈([26,1000,-1000,-1,1]:List Int),-9223372036854775808≤z∧z≤9223372036854775807 by decide) y hyl
   obtain⟨e1,i1⟩:=iR (o:=aK bs (p+1+1)) i1 (hWc _) h5c.symm
   rw[bM] at e1 i1
   rw[e1]
   have hbo:=cH i1
   obtain⟨e2,i1⟩:=oV (hd':=[.int .i64 k,.int .i64 y,.str s]) i1
   simp only[dM,dB] at e2
   simp only[aF,hbo,aB,seval,hJ]
   rw[e2]
   have hbo:=cH i1
   have h4o:=dW i1 (x:=b4) (by rw[hW4];simp) h54.symm
   rw[hW4] at h4o
   simp only[h4o,c5,aB,seval]
   obtain⟨g5,g6⟩:=fF (o:=.cells [.int .i64 (k),.int .i64 (y),.str (s),aT 4 b ((ts).map Tm.av)]) i1 (show((st.aC b4 (.cells [.int .i64 0,.int .i64 0,.str ⟨#[]⟩,.fslice []])).aC c (aK bs (p+1+1))) b4≠none by rw[hW4];simp) h54.symm
   refine⟨b,_,_,g5,g6,d8 _,⟨4,cT _⟩,st.aC c (aK bs (p+1+1)),hdr _ _ _,p+1+1,by omega,by omega,rfl,.mk (k) (y) (s) (ts),⟨yR hN.1,⟨hyl.1,hyl.2,hN.2.1.2.2⟩,hN.2.2⟩,?_⟩
   simp only[eC,bT,bF,dQ,d7,eG,a6]
 simp only[aB,seval]
 refine aW (fun h0=>?_) (fun h0=>?_)
 · simp only[aB,seval,hJ]
   refine(nJ [⟨#[]⟩,⟨#[88]⟩,⟨#[116,111,111,108,111,110,103]⟩,⟨#[195,169]⟩,⟨#[97]⟩] (by simp) (by simp) bs c (p+1) (by omega) _ (hRq _ _ _ i1)).mono ?_
   rintro _ _ ⟨y,hyl,rfl,rfl⟩
   have hyl:=(show ∀z∈([⟨#[]⟩,⟨#[88]⟩,⟨#[116,111,111,108,111,110,103]⟩,⟨#[195,169]⟩,⟨#[97]⟩]:List ByteArray),z.size≤1048576 by decide) y hyl
   obtain⟨e1,i1⟩:=iR (o:=aK bs (p+1+1)) i1 (hWc _) h5c.symm
   rw[bM] at e1 i1
   rw[e1]
   have hbo:=cH i1
   obtain⟨e2,i1⟩:=oV (hd':=[.int .i64 k,.int .i64 n,.str y]) i1
   simp only[dM,dB] at e2
   simp only[aF,hbo,aB,seval,hJ]
   rw[e2]
   have hbo:=cH i1
   have h4o:=dW i1 (x:=b4) (by rw[hW4];simp) h54.symm
   rw[hW4] at h4o
   simp only[h4o,c5,aB,seval]
   obtain⟨g5,g6⟩:=fF (o:=.cells [.int .i64 (k),.int .i64 (n),.str (y),aT 4 b ((ts).map Tm.av)]) i1 (show((st.aC b4 (.cells [.int .i64 0,.int .i64 0,.str ⟨#[]⟩,.fslice []])).aC c (aK bs (p+1+1))) b4≠none by rw[hW4];simp) h54.symm
   refine⟨b,_,_,g5,g6,d8 _,⟨4,cT _⟩,st.aC c (aK bs (p+1+1)),hdr _ _ _,p+1+1,by omega,by omega,rfl,.mk (k) (n) (y) (ts),⟨yR hN.1,⟨hN.2.1.1,hN.2.1.2.1,hyl⟩,hN.2.2⟩,?_⟩
   simp only[eC,bT,bF,dQ,d7,eG,a6]
 simp only[aB,seval]
 refine aW (fun h0=>?_) (fun h0=>?_)
 · simp only[aB,seval]
   refine fH (σ:=Nat×List Tm) [1000000,5] [4,5,10] (fun x=>(x.2.map Tm.av≠[]→(aA.aC ((st.aC b4 (.cells [.int .i64 0,.int .i64 0,.str ⟨#[]⟩,.fslice []])).aC c (aK bs (p+1))) b5 (.cells ([.int .i64 k,.int .i64 n,.str s]++ [aT 4 x.1 (x.2.map Tm.av)]))) x.1=none)∧((∀u∈x.2,u.small=true∧tO u)∧x.2.length≤1048576)) (fun _=>[]) (fun x=>cY ((st.aC b4 (.cells [.int .i64 0,.int .i64 0,.str ⟨#[]⟩,.fslice []])).aC c (aK bs (p+1))) b5 x.1 [.int .i64 k,.int .i64 n,.str s] (x.2.map Tm.av)) (fun x=>5 - x.2.length) (by decide +kernel) ⟨(b,ts),⟨i1,fun u hu=>⟨(Tm.kT hN.1).2 u hu,hN.2.2 u hu⟩,(Tm.kT hN.1).1⟩,aL.mk (by simp only[aB,seval])⟩ ?_
   rintro⟨b,acc⟩ ⟨i1,hac⟩
   simp only at i1 hac
   have hbo:=cH i1
   have haL:=t7 (w:=4) (b:=b) (l:=acc.map Tm.av) zR
   simp only[hbo,iM,haL,aG,aB,seval,hJ]
   refine aW (fun h1=>?_) (fun h1=>?_)
   · simp only[bK] at h1
     have cO:(acc.map Tm.av).length≤4:=by rw[aG];omega
     simp only[aB,seval]
     refine k0 [(0,1),(1,1),(2,0),(3,1),(4,0),(5,1),(6,2)] [0,1,3,5] (g7.aC b5 (.cells [.int .i64 k,.int .i64 n,.str s,aT 4 b (acc.map Tm.av)])) mixed (by decide +kernel) (by decide +kernel) (by decide +kernel) rfl (eQ hbo) ?_
     simp only[iM,aB,seval,hJ]
     refine(oI 1 _).to ?_
     simp only[aQ,aR,bW,aB,seval,hJ]
     refine⟨eQ hbo,?_⟩
     refine eH cS gG gH rfl rfl (eR (aR _) (bA _)) (cT _) i1 (by simp only[bD,bN];omega) (by simp only[bD,bN];omega) (fun b' hb'=>?_)
     rw[show acc.map Tm.av++ [(Tm.mk 2 1 ⟨#[]⟩ []).av]=(acc++ [Tm.mk 2 1 ⟨#[]⟩ []]).map Tm.av by simp] at hb' ⊢
     obtain⟨g1,g2,g3⟩:=kB hb'
     simp only[dM,dB] at g1 g3
     simp only[aF,c5,jN,aB,seval,hJ]
     refine⟨eQ g3,?_⟩
     simp only[g3,g1,aB,seval]
     refine⟨(b',acc++ [Tm.mk 2 1 ⟨#[]⟩ []]),by simp only[dI,bD,bN];omega,⟨g2,fun u hu=>?_,by rw[aG] at cO;simp only[dI,bD,bN];omega⟩,aL.mk (by simp only[aB,seval])⟩
     rcases iY.1 hu with hu | hu
     · exact hac.1 u hu
     · simp only[dS,gB,fU] at hu
       subst hu
       exact⟨rfl,sL ⟨by omega,by omega,by decide⟩⟩
   · simp only[aF,hbo,c5,aB,seval,hJ]
     have hbo:=cH i1
     have h4o:=dW i1 (x:=b4) (by rw[hW4];simp) h54.symm
     rw[hW4] at h4o
     simp only[h4o,aB,seval]
     obtain⟨g5,g6⟩:=fF (o:=.cells [.int .i64 (k),.int .i64 (n),.str (s),aT 4 b ((acc).map Tm.av)]) i1 (show((st.aC b4 (.cells [.int .i64 0,.int .i64 0,.str ⟨#[]⟩,.fslice []])).aC c (aK bs (p+1))) b4≠none by rw[hW4];simp) h54.symm
     refine⟨b,_,_,g5,g6,d8 _,⟨4,cT _⟩,st.aC c (aK bs (p+1)),hdr _ _ _,p+1,by omega,by omega,rfl,.mk (k) (n) (s) (acc),⟨C4 hac.2 fun x hx=>(hac.1 x hx).1,hN.2.1,fun x hx=>(hac.1 x hx).2⟩,?_⟩
     simp only[eC,bT,bF,dQ,d7,eG,a6]
 simp only[aB,seval]
 refine aW (fun h0=>?_) (fun h0=>?_)
 · simp only[aB,seval]
   have hW5:∀Z,((st.aC b4 (.cells [.int .i64 0,.int .i64 0,.str ⟨#[]⟩,.fslice []])).aC c (aK bs (p+1))).aC b5 Z b4=some (.cells [.int .i64 0,.int .i64 0,.str ⟨#[]⟩,.fslice []]):=fun Z=>by rw[aA.aV _ _ h54.symm,hW4]
   refine fW (σ:=Tm) [1000000,5] [4,5] (List.range 30) (fun _ u=>Ng u) (fun i _=>[(6,.int .i64 i)]) (fun _ u=>((st.aC b4 (.cells [.int .i64 0,.int .i64 0,.str ⟨#[]⟩,.fslice []])).aC c (aK bs (p+1))).aC b5 (.cells u.av.cells)) (by decide +kernel)
    ⟨.mk k n s ts,hN,?_⟩ (fun i x u hx hlt b9 aBV hnu=>?_) (fun u hge hnu=>?_)
   · rw[a6]
     exact(RH i1 (d8 _) ⟨4,cT _⟩).trans (c7.fC (by simp only[aB,↓bG,seval]))
   · rw[wI] at hlt
     have B6:decide ((i:Int)<30)=true:=by simp;omega
     have hw:=bO (n:=(i:Int)+1)
     simp only[B6,aO,aQ,aR,bW,cD (aO _),cC (aQ _),aB,seval,hJ]
     refine(jP ⟨#[115]⟩ [u] (by simp) _).to ?_
     simp only[bM,aF,hw,aO,bA,aB,seval,hJ]
     exact⟨.mk 3 0 ⟨#[115]⟩ [u],⟨C4 (by simp) fun x hx=>by
      simp only[dS,gB,fU] at hx
      subst hx
      exact hnu.1,sL ⟨by omega,by omega,by decide⟩,fun x hx=>by
      simp only[Tm.ts,dS,gB,fU] at hx
      subst hx
      exact hnu.2.1⟩,aL.mk (by simp only[aB,seval])⟩
   · have aB3:decide ((29:Int)+1<30)=false:=rfl
     have h4o:=hW5 (.cells u.av.cells)
     simp only[wI,aF,h4o,aO,bA,cD (aO _),cC (aQ _),aB,↓bG,seval,hJ]
     exact⟨0,[],_,rfl,by simp,by simp,⟨4,by simp⟩,st.aC c (aK bs (p+1)),hdr _ _ _,p+1,by omega,by omega,rfl,u,hnu,Tm.uN u 0⟩
 · simp only[aB,seval,hJ]
   have hbo:=cH i1
   have h4o:=dW i1 (x:=b4) (by rw[hW4];simp) h54.symm
   rw[hW4] at h4o
   simp only[aF,hbo,h4o,c5,aB,seval,hJ]
   obtain⟨g5,g6⟩:=fF (o:=.cells [.int .i64 (k),.int .i64 (n),.str (s),aT 4 b ((ts).map Tm.av)]) i1 (show((st.aC b4 (.cells [.int .i64 0,.int .i64 0,.str ⟨#[]⟩,.fslice []])).aC c (aK bs (p+1))) b4≠none by rw[hW4];simp) h54.symm
   refine⟨b,_,_,g5,g6,d8 _,⟨4,cT _⟩,st.aC c (aK bs (p+1)),hdr _ _ _,p+1,by omega,by omega,rfl,.mk (k) (n) (s) (ts),hN,?_⟩
   simp only[eC,bT,bF,dQ,d7,eG,a6]

end Go.AW
namespace Go.AW
abbrev Cl:=Tm×List Tm
def a7:Cl→AV
 | (.mk k n s ts,b)=>.agg [.int .i64 k,.int .i64 n,.str s,.slice (ts.map Tm.av),.slice (b.map Tm.av)]
theorem dO(k n:Int)(s:ByteArray)(ts b:List Tm):a7 (.mk k n s ts,b)=.agg [.int .i64 k,.int .i64 n,.str s,.slice (ts.map Tm.av),.slice (b.map Tm.av)]:=rfl
theorem rZ(c:Cl):(a7 c).isAgg=true:=by obtain⟨⟨k,n,s,ts⟩,b⟩:=c;rfl
theorem jC(c:Cl):(a7 c).width=5:=by obtain⟨⟨k,n,s,ts⟩,b⟩:=c;rfl
theorem FT(c:Cl):(a7 c).cells.length=5:=by obtain⟨⟨k,n,s,ts⟩,b⟩:=c;rfl
theorem FU(c:Cl):(a7 c).cells.all AV.storable=true:=by obtain⟨⟨k,n,s,ts⟩,b⟩:=c;rfl
theorem xF(c:Cl):(a7 c).bP=false:=by obtain⟨⟨k,n,s,ts⟩,b⟩:=c;rfl
def CU:Tm→Bool | .mk k _ s ts=>g9 k s (ts.length:Int)
def gF(c:Cl):Bool:=c.1.valid&&CU c.1&&(decide (c.2.length≤6)&&c.2.all Tm.goal)
def gQ(p:List Cl):Bool:=decide (p.length≤20)&&p.all gF
end Go.AW
namespace Go.AW
open Go.Proofs.Tryz
section
variable {S:aA} {c b w:Nat} {hd tl l:List AV}
theorem D1{h:aN}{st:aA}{a a':AV}(hv:∀v,VC h st a [v]→VC h st a' [v]):∀(hd:List AV) {tl:List AV} {vs:List Value},aJ h st (hd++a::tl) vs→aJ h st (hd++a'::tl) vs
 | [],tl,vs,x=>by
  simp only[dB,aJ] at x ⊢
  obtain⟨c,r,e,x1,x2⟩:=x
  exact⟨c,r,e,hv c x1,x2⟩
 | y::hd,tl,vs,x=>by
  simp only[dM,aJ] at x ⊢
  obtain⟨c,r,e,x1,x2⟩:=x
  exact⟨c,r,e,x1,D1 hv hd x2⟩
theorem c7.aE4{φ:AF}{st:aA}{c:Nat}{hd tl:List AV}{a:AV}(hc:st c=some (.cells (hd++a::tl))):c7 φ st φ (st.aC c (.cells (hd++a.soft::tl))):=fun h tmps S F=>by
 have T:aX h st h (st.aC c (.cells (hd++a.soft::tl))):=aX.of fun x hx=>by
  have:x≠c:=by rintro rfl;rw[hc] at hx;cases hx
  rw[aA.aV _ _ this];exact hx
 refine⟨fun x o hx=>?_,T,fun d=>(F d).mono T⟩
 by_cases e:x=c
 · subst e
   rw[aA.aP] at hx
   cases hx
   obtain⟨hl,c0,t,e1,e2,vs,e3,e4⟩:=S x _ hc
   refine⟨hl,c0,t,e1,?_,vs,e3,aJ.mono T _ _ (D1 (fun v hv=>VC.soft a [v] hv) hd e4)⟩
   simpa using e2
 · rw[aA.aV _ _ e] at hx
   obtain⟨hl,y⟩:=S x o hx
   exact⟨hl,iC.mono T rfl y⟩
end
abbrev o7:=zi aZ (zi cE (zi bH hO))
theorem BC(cl:Cl)(h1:cl.1.small=true)(h2:cl.2.length≤1048576)(h3:∀x∈cl.2,x.small=true)(st:aA):aD prog 203 [a7 cl] st (fun r st'=>r=a7 cl∧st'=st):=by
 obtain⟨⟨k,n,s,ks⟩,ts⟩:=cl
 have hhd:=fun st=>rU (.mk k n s ks) st h1
 simp only[a6] at hhd
 have IH:=fun(x:Tm) (hx:x∈ts) st=>rU x st (h3 x hx)
 have hlen:ts.length≤1048576:=h2
 refine aD.oN (aD.fin ?_)
 simp only[dO]
 refine wF [] 1 func203 ntmps203 rfl rfl ?_
 simp only[dG,AV.fits,eJ,aG]
 intro ⟨_,_,_,_,hl,_⟩
 simp only[aB,seval,o7]
 intro b2 hb2
 refine(hhd _).to ?_
 simp only[aF,aB,seval,o7]
 intro c hc
 have hne:c≠b2:=by rintro rfl;rw[aA.aP] at hc;cases hc
 have hn2:st c=none:=by rw[aA.aV st _ hne] at hc;exact hc
 have iQ:b2≠c:=cV hne
 refine fW (σ:=Nat) [] [1,2,3] ts (fun i b=>(((ts.take i).map (fun y=>y)).map Tm.av≠[]→(aA.aC (st.aC b2 (.cells [AV.int .i64 0,AV.int .i64 0,AV.str ⟨#[]⟩,AV.fslice [],AV.fslice []])) c (.cells ([AV.int .i64 k,AV.int .i64 n,AV.str s,AV.slice (ks.map Tm.av)]++ [aT 4 b (((ts.take i).map (fun y=>y)).map Tm.av)]))) b=none)) (fun i b=>[(4,.int .i64 i)]) (fun i b=>cY (st.aC b2 (.cells [AV.int .i64 0,AV.int .i64 0,AV.str ⟨#[]⟩,AV.fslice [],AV.fslice []])) c b [AV.int .i64 k,AV.int .i64 n,AV.str s,AV.slice (ks.map Tm.av)] (((ts.take i).map (fun y=>y)).map Tm.av)) (by decide +kernel)
  ⟨0,fun h=>absurd rfl h,aL.mk (by simp only[aB,↓bG,seval])⟩ (fun i x b hx hlt b9 hdr hinv=>?_) (fun b hge hinv=>?_)
 case refine_1=>
  have hw:=bO (n:=(i:Int)+1)
  have cO:(((ts.take i).map (fun y=>y)).map Tm.av).length=i:=by simp only[aG,dZ];omega
  have htk:(ts.take (i+1)).map (fun y=>y)=(ts.take i).map (fun y=>y)++ [(fun y=>y) x]:=by rw[gW,hx];simp
  have hbo:=cH hinv
  simp only[aG,b9,aB,seval,o7]
  refine wP [(0,1),(2,1),(4,1),(1,2),(3,2),(5,1),(6,2),(7,2),(8,1),(9,0),(10,1),(11,0)] [0,2,4,1,3,5,6,7,8,10] mixed ?_
  simp only[cJ (av:=Tm.av) cS hx (aR x),aQ,aR,hbo,iM,eX,aB,seval,o7]
  refine eV (IH x (c8 hx) _) ?_
  simp only[aQ,aR,bW,eX,aB,seval,o7]
  refine eH cS gG gH rfl rfl (eR (aR _) (bA _)) (cT _) hinv (by simp only[cO,bD,bN];omega) (by simp only[cO,bD,bN];omega) (fun b' hb'=>?_)
  rw[show(((ts.take i).map (fun y=>y)).map Tm.av)++ [((fun y=>y) x).av]=((ts.take (i+1)).map (fun y=>y)).map Tm.av by rw[htk];simp] at hb' ⊢
  obtain⟨g1,g2,g3⟩:=kB hb'
  simp only[dM,dB] at g1 g3
  simp only[g3,jN,c5,aF,g1,hw,aF,aB,seval,o7]
  exact⟨b',g2,aL.mk (by simp only[aB,seval])⟩
 have hbo:=cH hinv
 rw[fZ] at hinv hbo ⊢
 simp only[aG,hge,aB,seval,o7]
 simp only[hbo,aF,aB,seval,o7]
 have hS:(st.aC b2 (.cells [AV.int .i64 0,AV.int .i64 0,AV.str ⟨#[]⟩,AV.fslice [],AV.fslice []])) b2≠none:=by rw[aA.aP];simp
 have h1:=dW hinv hS iQ
 rw[aA.aP] at h1
 simp only[h1,c5,aB,seval]
 obtain⟨h2,h3⟩:=fF (o:=.cells [AV.int .i64 k,AV.int .i64 n,AV.str s,AV.slice (ks.map Tm.av),aT 4 b ((ts.map fun y=>y).map Tm.av)]) hinv hS iQ
 refine⟨b,_,_,h2,h3,d8 _,⟨4,cT _⟩,?_,?_⟩
 · simp only[eC,bT,bF,dQ,d7,j5,eG,List.map_id']
 · exact(((aH.refl _).aC hb2).aC hn2).aC hb2
structure Ss where
 p:List Cl
 q:List Tm
 aH8:Int
 used:Int
 aIA:Int
 fin:Int
theorem pU(l:List Cl):∀e∈l.map a7,e.width=5:=by intro e h;simp only[fN] at h;obtain⟨t,_,rfl⟩:=h;exact jC t
theorem xG(l:List Cl):∀e∈l.map a7,e.bP=false:=by intro e h;simp only[fN] at h;obtain⟨t,_,rfl⟩:=h;exact xF t
def jO(s:ByteArray)(a:Int)(p:UInt8→Bool):Bool:=decide (0≤a)&&(decide (a<(s.size:Int))&&(match (sb s)[a.toNat]? with | some x=>p x | none=>false))
def o0(s:ByteArray)(a:Int)(c:Nat):Bool:=jO s a fun x=>decide (x.toNat=c)
def oM(s:ByteArray)(a:Int):Bool:=jO s a fun x=>decide (48≤x.toNat)&&decide (x.toNat≤57)
def o5(s:ByteArray)(a:Int):Bool:=jO s a letter
theorem nI{s:ByteArray}{n:Nat}(h:n<s.size):∃x,(sb s)[n]?=some x:=⟨_,eA (by rw[bL];exact h)⟩
abbrev TT:=zi aZ (zi cB (zi hY b7))
theorem XU(s:ByteArray)(a:Int)(c:Nat)(st:aA):aD prog 283 [.str s,.int .i64 a,.int .u8 (c:Int)] st (fun r st'=>r=.bool (o0 s a c)∧st'=st):=by
 by_cases h:0≤a∧a<(s.size:Int)
 · obtain⟨n,rfl⟩:=q5 h.1
   obtain⟨x,hx⟩:=nI (s:=s) (n:=n) (by omega)
   have hix:=lN (P:=prog) (t:=9) kZ hx
   have hv:o0 s (n:Int) c=decide (x.toNat=c):=by simp only[o0,jO,jZ,hx,dK h.1,dK h.2,dH]
   rw[hv]
   refine wF [1000000] 3 func283 ntmps283 rfl rfl ?_
   intro _
   repeat' (first
    | (simp only[*,aB,seval,TT])
    | (refine cU (fun h=>?_) (fun h=>?_))
    | (refine aW (fun h=>?_) (fun h=>?_)))
   all_goals simp_all
   omega
 · by_cases h1:0≤a
   · have h2:¬a<(s.size:Int):=fun h2=>h ⟨h1,h2⟩
     have hv:o0 s a c=false:=by simp only[o0,jO,dP h2,dL,pH]
     rw[hv]
     clear hv h
     refine wF [1000000] 3 func283 ntmps283 rfl rfl ?_
     intro _
     simp only[h1,h2,a8,bB,aB,seval,TT]
   · have hv:o0 s a c=false:=by simp only[o0,jO,dP h1,dL]
     rw[hv]
     clear hv h
     refine wF [1000000] 3 func283 ntmps283 rfl rfl ?_
     intro _
     simp only[h1,bB,aB,seval]
abbrev TV:=zi aZ (zi cB (zi hY b7))
theorem XN(s:ByteArray)(a:Int)(st:aA):aD prog 334 [.str s,.int .i64 a] st (fun r st'=>r=.bool (oM s a)∧st'=st):=by
 by_cases h:0≤a∧a<(s.size:Int)
 · obtain⟨n,rfl⟩:=q5 h.1
   obtain⟨x,hx⟩:=nI (s:=s) (n:=n) (by omega)
   have hix:=lN (P:=prog) (t:=9) kZ hx
   have hv:oM s (n:Int)=(decide (48≤x.toNat)&&decide (x.toNat≤57)):=by simp only[oM,jO,jZ,hx,dK h.1,dK h.2,dH]
   rw[hv]
   refine wF [1000000] 2 func334 ntmps334 rfl rfl ?_
   intro _
   repeat' (first
    | (simp only[*,aB,seval,TV])
    | (refine cU (fun h=>?_) (fun h=>?_))
    | (refine aW (fun h=>?_) (fun h=>?_)))
   all_goals clear hix hv hx
   all_goals (congr 1;rw[Bool.eq_iff_iff];simp only[bV,bK,dF,fX,fJ,false_iff,not_and] at *;omega)
 · by_cases h1:0≤a
   · have h2:¬a<(s.size:Int):=fun h2=>h ⟨h1,h2⟩
     have hv:oM s a=false:=by simp only[oM,jO,dP h2,dL,pH]
     rw[hv]
     clear hv h
     refine wF [1000000] 2 func334 ntmps334 rfl rfl ?_
     intro _
     simp only[h1,h2,a8,bB,aB,seval,TV]
   · have hv:oM s a=false:=by simp only[oM,jO,dP h1,dL]
     rw[hv]
     clear hv h
     refine wF [1000000] 2 func334 ntmps334 rfl rfl ?_
     intro _
     simp only[h1,bB,aB,seval]
abbrev TU:=zi aZ (zi cB (zi hY b7))
theorem XW(s:ByteArray)(a:Int)(st:aA):aD prog 333 [.str s,.int .i64 a] st (fun r st'=>r=.bool (o5 s a)∧st'=st):=by
 by_cases h:0≤a∧a<(s.size:Int)
 · obtain⟨n,rfl⟩:=q5 h.1
   obtain⟨x,hx⟩:=nI (s:=s) (n:=n) (by omega)
   have hix:=lN (P:=prog) (t:=9) kZ hx
   have hv:o5 s (n:Int)=(decide (97≤x.toNat)&&decide (x.toNat≤122)):=by simp only[o5,jO,letter,jZ,hx,dK h.1,dK h.2,dH]
   rw[hv]
   refine wF [1000000] 2 func333 ntmps333 rfl rfl ?_
   intro _
   repeat' (first
    | (simp only[*,aB,seval,TU])
    | (refine cU (fun h=>?_) (fun h=>?_))
    | (refine aW (fun h=>?_) (fun h=>?_)))
   all_goals clear hix hv hx
   all_goals (congr 1;rw[Bool.eq_iff_iff];simp only[bV,bK,dF,fX,fJ,false_iff,not_and] at *;omega)
 · by_cases h1:0≤a
   · have h2:¬a<(s.size:Int):=fun h2=>h ⟨h1,h2⟩
     have hv:o5 s a=false:=by simp only[o5,jO,dP h2,dL,pH]
     rw[hv]
     clear hv h
     refine wF [1000000] 2 func333 ntmps333 rfl rfl ?_
     intro _
     simp only[h1,h2,a8,bB,aB,seval,TU]
   · have hv:o5 s a=false:=by simp only[o5,jO,dP h1,dL]
     rw[hv]
     clear hv h
     refine wF [1000000] 2 func333 ntmps333 rfl rfl ?_
     intro _
     simp only[h1,bB,aB,seval]
end Go.AW
namespace Go.AW
abbrev ba (l:List UInt8):ByteArray:=⟨⟨l⟩⟩
def cA(x:UInt8):Bool:=decide (48≤x.toNat)&&decide (x.toNat≤57)
def lW(x:UInt8):Bool:=decide (65≤x.toNat)&&decide (x.toNat≤90)
def bJ(l:List UInt8)(n c:Nat):Bool:=match l[n]? with | some x=>decide (x.toNat=c) | none=>false
def dC(l:List UInt8)(n:Nat)(p:UInt8→Bool):Bool:=match l[n]? with | some x=>p x | none=>false
def iP(l:List UInt8):Nat:=l.foldl (fun n x=>n*10+(x.toNat - 48)) 0
def d5(l:List UInt8):Nat×Bool:=if l.length=0∨(bJ l 0 48=true∧1<l.length) then(0,false) else(iP l,true)
def mO(l:List UInt8)(a:Nat):Option (Int×Nat):=
 let f:=if bJ l a 45 then a+1 else a
 let t:=((l.drop f).takeWhile cA).take 4
 if(d5 t).2=false∨(a<f∧(d5 t).1=0)∨999<(d5 t).1 then none else some (if a<f then -((d5 t).1:Int) else((d5 t).1:Int),f+t.length)
def fK(l:List UInt8)(b g:ByteArray):ByteArray:=if l.take g.size=sb g∧b.size<g.size then g else b
def jI(l:List UInt8)(a:Nat):Option (ByteArray×Nat):=
 let t:=(l.drop a).takeWhile letter
 if 6<t.length then none else if 0<t.length then some (ba t,a+t.length)
 else let b:=eD.foldl (fK (l.drop a)) ⟨#[]⟩
  if b.size=0 then none else some (b,a+b.size)
theorem F0{l:List UInt8}{i:Nat}{x:UInt8}(h:l[i]?=some x):iP (l.take (i+1))=iP (l.take i)*10+(x.toNat - 48):=by
 simp [iP,gW,h,List.foldl_append]
theorem FZ:∀(l:List UInt8) (n:Nat),(∀x∈l,cA x=true)→l.foldl (fun n x=>n*10+(x.toNat - 48)) n+1≤(n+1)*10 ^ l.length
 | [],n,_=>by simp
 | x::l,n,h=>by
  have hx:=h x (by simp)
  simp only[cA,bV,bK] at hx
  have:=FZ l (n*10+(x.toNat - 48)) (fun y hy=>h y (by simp [hy]))
  simp only[tJ,bD,Nat.pow_succ]
  refine jM this ?_
  rw[Nat.mul_comm (10 ^ l.length) 10,←Nat.mul_assoc]
  exact lA _ (by omega)
theorem BM{l:List UInt8}(h:∀x∈l,cA x=true):iP l<10 ^ l.length:=Nat.lt_of_succ_le (by have:=FZ l 0 h;simpa [iP] using this)
theorem aES(s:ByteArray)(a b:Nat):sb (s.extract a b)=((sb s).drop a).take (b - a):=by
 simp only[sb,ByteArray.data_extract,Array.toList_extract,List.extract_eq_take_drop]
theorem V9{g:ByteArray}(h:g.size=0):g=⟨#[]⟩:=by
 obtain⟨⟨l⟩⟩:=g
 have:l.length=0:=h
 rw[List.length_eq_zero_iff.1 this]
theorem EN(s:ByteArray):ba (sb s)=s:=rfl
theorem uE(s:ByteArray)(a b:Nat):s.extract a b=ba (((sb s).drop a).take (b - a)):=by rw[←aES]
theorem jE{l:List UInt8}{n c:Nat}(h:bJ l n c=true):n<l.length:=by
 unfold bJ at h
 rcases iZ n l.length with h1 | h1
 · exact h1
 · rw[List.getElem?_eq_none h1] at h;cases h
theorem aCZ{l:List UInt8}{n:Nat}{p:UInt8→Bool}(h:dC l n p=true):n<l.length:=by
 unfold dC at h
 rcases iZ n l.length with h1 | h1
 · exact h1
 · rw[List.getElem?_eq_none h1] at h;cases h
theorem lO{l:List UInt8}{n c:Nat}{x:UInt8}(h:l[n]?=some x):bJ l n c=decide (x.toNat=c):=by simp only[bJ,h]
theorem n0{l:List UInt8}{n:Nat}{p:UInt8→Bool}{x:UInt8}(h:l[n]?=some x):dC l n p=p x:=by simp only[dC,h]
theorem RR{l:List UInt8}(h:∀x∈l,cA x=true)(hl:l.length≤4):(d5 l).1<10000:=by
 unfold d5
 split
 · simp
 · exact m6 (BM h) (jM (tN (by omega) hl) (by decide))
theorem DR{p:UInt8→Bool}{l:List UInt8}{i:Nat}(hi:i≤(l.takeWhile p).length)(h:dC l i p=true):i<(l.takeWhile p).length:=by
 induction l generalizing i with
 | nil=>simp [dC] at h
 | cons x l ih=>
  cases i with
  | zero=>simp [dC] at h;simp [tK,h]
  | succ i=>
   rw[tK] at hi ⊢
   split at hi
   · rename_i hx
     rw[aU hx]
     simp only[bD] at hi ⊢
     have:=ih (i:=i) (by omega) (by simpa [dC] using h)
     omega
   · simp at hi
theorem DQ{p:UInt8→Bool}{l:List UInt8}{i:Nat}(hi:i≤(l.takeWhile p).length)(h:dC l i p=false):i=(l.takeWhile p).length:=by
 induction l generalizing i with
 | nil=>simp at hi;simp [hi]
 | cons x l ih=>
  cases i with
  | zero=>simp [dC] at h;simp [tK,h]
  | succ i=>
   rw[tK] at hi ⊢
   split at hi
   · rename_i hx
     rw[aU hx]
     simp only[bD] at hi ⊢
     have:=ih (i:=i) (by omega) (by simpa [dC] using h)
     omega
   · simp at hi
theorem UJ(p:UInt8→Bool)(l:List UInt8):l.take (l.takeWhile p).length=l.takeWhile p:=by
 induction l with
 | nil=>rfl
 | cons x l ih=>
  rw[tK]
  split
  · simp [ih]
  · rfl
theorem sG(l:List UInt8)(a i:Nat)(p:UInt8→Bool):dC (l.drop a) i p=dC l (a+i) p:=by simp only[dC,List.getElem?_drop]
theorem UH{p:UInt8→Bool}{l:List UInt8}:∀x∈l.takeWhile p,p x=true:=by
 induction l with
 | nil=>simp
 | cons y l ih=>
  rw[tK]
  split
  · rename_i h;intro x hx;simp only[dS] at hx;rcases hx with rfl | hx;exact h;exact ih x hx
  · simp
theorem UI{p:UInt8→Bool}{l:List UInt8}{k:Nat}(hk:k≤(l.takeWhile p).length):l.take k=(l.takeWhile p).take k:=by
 rw[←UJ p l,wL,l5 hk]
theorem vX(p:UInt8→Bool)(l:List UInt8):(l.takeWhile p).length≤l.length:=(List.takeWhile_sublist p).length_le
theorem EP(L:List UInt8):∀(gs:List ByteArray) (b:ByteArray),b.size≤3→(∀g∈gs,g.size≤3)→(gs.foldl (fK L) b).size≤3
 | [],b,h,_=>h
 | g::gs,b,h,hg=>by
  rw[tJ]
  refine EP L gs _ ?_ fun x hx=>hg x (by simp [hx])
  unfold fK
  split
  · exact hg g (by simp)
  · exact h
theorem SQ:∀g∈eD,g.size≤3:=by decide
theorem WF(L:List UInt8)(i:Nat):((eD.take i).foldl (fK L) ⟨#[]⟩).size≤3:=EP L _ _ (by decide) fun g hg=>SQ g (mZ hg)
end Go.AW
namespace Go.AW
open Go.Proofs.Tryz
theorem vL{φ:AF}{y z:Operand}{s:ByteArray}{k m:Nat}(h:φ.eval y=.int .i64 (k:Int))(h':φ.eval z=.int .i64 (m:Int))(hk:k≤m)(hm:m≤s.size):i8 prog φ 9 (.str s) (some y) (some z) none=some (.str (s.extract k m)):=by
 unfold i8 nE
 rw[aS (by simp [qB])]
 simp only[show prog.underlying 9=some .string from kZ,dN,h,h']
 rw[aU (by omega)]
 simp only[jZ]
 rw[aU (by omega)]
 try simp
theorem A2(s:ByteArray)(n:Nat)(p:UInt8→Bool):jO s (n:Int) p=dC (sb s) n p:=by
 unfold jO dC
 rw[jZ]
 by_cases h:n<s.size
 · rw[dK (by omega:(0:Int)≤(n:Int)),dK (by omega:(n:Int)<(s.size:Int))];try rfl
 · rw[dP (by omega:¬(n:Int)<(s.size:Int)),List.getElem?_eq_none (by rw[bL];omega)];simp
theorem f0(s:ByteArray)(n c:Nat)(st:aA):aD prog 283 [.str s,.int .i64 (n:Int),.int .u8 (c:Int)] st (fun r st'=>r=.bool (bJ (sb s) n c)∧st'=st):=by
 have h:=XU s n c st
 rwa [show o0 s n c=bJ (sb s) n c from A2 s n _] at h
theorem qG(s:ByteArray)(n:Nat)(st:aA):aD prog 334 [.str s,.int .i64 (n:Int)] st (fun r st'=>r=.bool (dC (sb s) n cA)∧st'=st):=by
 have h:=XN s n st
 rwa [show oM s n=dC (sb s) n cA from A2 s n _] at h
theorem RN(s:ByteArray)(n:Nat)(st:aA):aD prog 333 [.str s,.int .i64 (n:Int)] st (fun r st'=>r=.bool (dC (sb s) n letter)∧st'=st):=by
 have h:=XW s n st
 rwa [show o5 s n=dC (sb s) n letter from A2 s n _] at h
theorem EI{n k:Nat}(h:n≤1048576)(hk:k≤1048576):IntKind.wrap .i64 ((n:Int)+(k:Int))=((n+k:Nat):Int):=by
 rw[wrap64 (by omega) (by omega)];try rfl
abbrev tA:=zi aZ (zi cB (zi hY b7))
theorem E0(s:ByteArray)(hd:∀x∈sb s,cA x=true)(hl:s.size≤4)(st:aA):aD prog 366 [.str s] st (fun r st'=>r=.tup [.int .i64 ((d5 (sb s)).1:Int),.bool (d5 (sb s)).2]∧st'=st):=by
 refine wF [1000000] 1 func366 ntmps366 rfl rfl ?_
 intro _
 by_cases hs:s.size=0
 · have e:d5 (sb s)=(0,false):=by unfold d5;rw[aU (Or.inl (by rw[bL];exact hs))]
   rw[e]
   simp only[hs,aB,↓bG,seval,tA]
 have oU:(0:Int)<(s.size:Int):=by omega
 obtain⟨x0,hx0⟩:=nI (s:=s) (n:=0) (by omega)
 have hix:=lN (P:=prog) (t:=9) kZ hx0
 rw[show((0:Nat):Int)=0 from rfl] at hix
 have hdx:=hd x0 (c8 hx0)
 simp only[cA,bV,bK] at hdx
 have h45:((x0.toNat:Int)=45)=False:=bC (by omega)
 have h0:((s.size:Int)=0)=False:=bC (by omega)
 have h17:((17:Int)<(s.size:Int))=False:=bC (by omega)
 simp only[oU,hix,h45,h0,h17,a8,bB,aB,seval,tA]
 by_cases h48:x0.toNat=48
 case pos=>
  have sB:((x0.toNat:Int)=48)=True:=bR (by omega)
  by_cases h1:1<s.size
  case pos=>
   have h1':((1:Int)<(s.size:Int))=True:=bR (by omega)
   have e:d5 (sb s)=(0,false):=by unfold d5;rw[aU (Or.inr ⟨by rw[lO hx0,h48];try rfl,by rw[bL];exact h1⟩)]
   rw[e]
   simp only[sB,h1',a8,aB,↓bG,seval,tA]
  have h1':((1:Int)<(s.size:Int))=False:=bC (by omega)
  have hnd:d5 (sb s)=(iP (sb s),true):=by unfold d5;rw[aS (by rw[bL];rintro(h | ⟨_,h⟩)<;>omega)]
  simp only[sB,h1',a8,bB,aB,seval,tA]
  rw[hnd]
  refine fH (σ:=Nat) [1000000] [0,4] (fun i=>i≤s.size) (fun i=>[(5,.int .i64 (iP ((sb s).take i):Int)),(6,.int .i64 (i:Int))]) (fun _=>st) (fun i=>s.size - i) (by decide +kernel) ⟨0,by omega,aL.mk (by simp only[k9,aB,↓bG,seval];rfl)⟩ ?_
  intro i hi
  have hb:iP ((sb s).take i)<10000:=m6 (BM fun x hx=>hd x (mZ hx)) (jM (tN (by omega) (by rw[dZ];omega:((sb s).take i).length≤4)) (by decide))
  simp only[aB,seval,tA]
  refine aW (fun h5=>?_) (fun h5=>?_)
  case refine_2=>
   simp only[dF] at h5
   obtain rfl:i=s.size:=by omega
   rw[kH (by rw[bL];omega)]
   simp only[aB,seval]
  simp only[bK] at h5
  obtain⟨c,hc⟩:=nI (s:=s) (n:=i) (by omega)
  have hic:=lN (P:=prog) (t:=9) kZ hc
  have hdc:=hd c (c8 hc)
  simp only[cA,bV,bK] at hdc
  have c48:((c.toNat:Int)<48)=False:=bC (by omega)
  have c57:((57:Int)<(c.toNat:Int))=False:=bC (by omega)
  have hw0:=EI (n:=i) (k:=1) (by omega) (by omega)
  rw[show((1:Nat):Int)=1 from rfl] at hw0
  have hw1:=bO (n:=(iP ((sb s).take i):Int)*10)
  have hw2:IntKind.wrap .u8 ((c.toNat:Int) - 48)=((c.toNat - 48:Nat):Int):=by rw[IntKind.wrap_u8];omega
  have hw3:=bO (n:=((c.toNat - 48:Nat):Int))
  have hw4:=bO (n:=(iP ((sb s).take i):Int)*10+((c.toNat - 48:Nat):Int))
  have gJ:=F0 hc
  simp only[hic,c48,c57,hw1,hw2,bB,aB,seval]
  refine⟨i+1,by omega,by omega,aL.mk ?_⟩
  rw[gJ]
  simp only[hw0,hw3,hw4,aB,seval]
  rfl
 have sB:((x0.toNat:Int)=48)=False:=bC (by omega)
 have hnd:d5 (sb s)=(iP (sb s),true):=by unfold d5;rw[aS (by rw[bL,lO hx0];rintro(h | ⟨h,_⟩);omega;exact h48 (of_decide_eq_true h))]
 simp only[sB,bB,aB,seval]
 rw[hnd]
 refine fH (σ:=Nat) [1000000] [0,4] (fun i=>i≤s.size) (fun i=>[(5,.int .i64 (iP ((sb s).take i):Int)),(6,.int .i64 (i:Int))]) (fun _=>st) (fun i=>s.size - i) (by decide +kernel) ⟨0,by omega,aL.mk (by simp only[k9,aB,↓bG,seval];rfl)⟩ ?_
 intro i hi
 have hb:iP ((sb s).take i)<10000:=m6 (BM fun x hx=>hd x (mZ hx)) (jM (tN (by omega) (by rw[dZ];omega:((sb s).take i).length≤4)) (by decide))
 simp only[aB,seval,tA]
 refine aW (fun h5=>?_) (fun h5=>?_)
 case refine_2=>
  simp only[dF] at h5
  obtain rfl:i=s.size:=by omega
  rw[kH (by rw[bL];omega)]
  simp only[aB,seval]
 simp only[bK] at h5
 obtain⟨c,hc⟩:=nI (s:=s) (n:=i) (by omega)
 have hic:=lN (P:=prog) (t:=9) kZ hc
 have hdc:=hd c (c8 hc)
 simp only[cA,bV,bK] at hdc
 have c48:((c.toNat:Int)<48)=False:=bC (by omega)
 have c57:((57:Int)<(c.toNat:Int))=False:=bC (by omega)
 have hw0:=EI (n:=i) (k:=1) (by omega) (by omega)
 rw[show((1:Nat):Int)=1 from rfl] at hw0
 have hw1:=bO (n:=(iP ((sb s).take i):Int)*10)
 have hw2:IntKind.wrap .u8 ((c.toNat:Int) - 48)=((c.toNat - 48:Nat):Int):=by rw[IntKind.wrap_u8];omega
 have hw3:=bO (n:=((c.toNat - 48:Nat):Int))
 have hw4:=bO (n:=(iP ((sb s).take i):Int)*10+((c.toNat - 48:Nat):Int))
 have gJ:=F0 hc
 simp only[hic,c48,c57,hw1,hw2,bB,aB,seval]
 refine⟨i+1,by omega,by omega,aL.mk ?_⟩
 rw[gJ]
 simp only[hw0,hw3,hw4,aB,seval]
 rfl
theorem iW{x:Int}{m:Nat}(h:x=(m:Int))(hm:m≤1099511627776):IntKind.wrap .i64 x=(m:Int):=by rw[wrap64 (by omega) (by omega)];exact h
abbrev vT:Tm:=.mk 0 0 ⟨#[]⟩ []
def qI(o:Option (Int×Nat)):AV:=match o with | some (n,e)=>.tup [(Tm.mk 2 n ⟨#[]⟩ []).av,.int .i64 (e:Int)] | none=>.tup [vT.av,.int .i64 (-1)]
abbrev qT:=zi aZ (zi cB (zi hY (zi pF (zi b7 bH))))
set_option maxHeartbeats 1000000 in
theorem XS(s:ByteArray)(hs:s.size≤1000)(a:Nat)(ha:a≤s.size)(st:aA):aD prog 353 [.str s,.int .i64 (a:Int)] st (fun r st'=>r=qI (mO (sb s) a)∧st'=st):=by
 refine aD.done ?_
 refine wF [1000000] 2 func353 ntmps353 rfl rfl ?_
 intro _
 simp only[aB,seval,qT]
 intro b hb
 refine(f0 s a 45 _).to ?_
 obtain⟨f1,hf1⟩:∃f,f=a+1:=⟨_,rfl⟩
 have hw1:=iW (x:=(a:Int)+1) (m:=f1) (by omega) (by omega)
 simp only[aB,seval]
 refine aW (fun h1=>?_) (fun h1=>?_)
 · have hf:=jE h1
   rw[bL] at hf
   simp only[hw1,aB,seval]
   obtain⟨f,rfl⟩:∃f,f=f1:=⟨_,rfl⟩
   replace hf:f≤s.size:=by omega
   refine fH (σ:=Nat) [1000000] [0,1,4,5,7] (fun j=>f≤j∧j≤f+4∧j - f≤(((sb s).drop f).takeWhile cA).length) (fun j=>[(6,.int .i64 (j:Int))]) (fun _=>st.aC b (.cells [.int .i64 0,.int .i64 0,.str ⟨#[]⟩,.fslice []])) (fun j=>f+4 - j) (by decide +kernel) ⟨f,⟨by omega,by omega,by omega⟩,aL.mk (by simp only[aB,seval])⟩ ?_
   rintro j ⟨hj1,hj4,hj⟩
   have hfi:j≤s.size:=by have:=vX cA ((sb s).drop f);rw[kG,bL] at this;omega
   simp only[aB,seval]
   refine(qG s j _).to ?_
   have hw4:=bO (n:=(f:Int)+4)
   have uZ:=bO (n:=(j:Int)+1)
   simp only[aB,seval]
   refine cU (fun h5=>?_) (fun h5=>?_)
   simp only[h5,hw4,aB,seval]
   refine aW (fun h6=>?_) (fun h6=>?_)
   case' refine_1.refine_1=>
    rw[show j=f+(j - f) by omega,←sG] at h5
    simp only[bK] at h6
    simp only[uZ,aB,seval]
    exact⟨j+1,by omega,⟨by omega,by omega,by have:=DR hj h5;omega⟩,aL.mk (by simp only[aB,seval]<;>rfl)⟩
   all_goals
    have ht:(((sb s).drop f).takeWhile cA).take 4=((sb s).drop f).take (j - f):=by
     rw[UI hj]
     rcases iZ (j - f) 4 with h7 | h7
     · have h8:j - f=(((sb s).drop f).takeWhile cA).length:=by
        refine DQ hj ?_
        rw[sG,show f+(j - f)=j by omega]
        first | exact h5 | (simp only[dF] at h6;omega)
       rw[h8,fZ,kH (by omega)]
     · rw[show j - f=4 by omega]
    have hex:s.extract f j=ba ((((sb s).drop f).takeWhile cA).take 4):=by rw[uE,ht]
    have hln:((((sb s).drop f).takeWhile cA).take 4).length=j - f:=by rw[ht,dZ,kG,bL];omega
    have hdg:∀x∈(((sb s).drop f).takeWhile cA).take 4,cA x=true:=fun x hx=>UH x (mZ hx)
    have hsl:=fun(φ:AF) (y z:Operand) (h:φ.eval y=.int .i64 (f:Int)) (h':φ.eval z=.int .i64 (j:Int))=>vL (s:=s) h h' hj1 hfi
    rw[hex] at hsl
    have hrd:mO (sb s) a=if(d5 ((((sb s).drop f).takeWhile cA).take 4)).2=false∨(a<f∧(d5 ((((sb s).drop f).takeWhile cA).take 4)).1=0)∨999<(d5 ((((sb s).drop f).takeWhile cA).take 4)).1 then none else some (if a<f then -((d5 ((((sb s).drop f).takeWhile cA).take 4)).1:Int) else((d5 ((((sb s).drop f).takeWhile cA).take 4)).1:Int),f+((((sb s).drop f).takeWhile cA).take 4).length):=by
     unfold mO
     simp only[h1,↓reduceIte,←hf1]
    rw[hrd]
    clear hrd
    generalize (((sb s).drop f).takeWhile cA).take 4=t at *
    simp only[hsl,h5,aB,seval]
    refine(E0 (ba t) hdg (by show t.length≤4;omega) _).to ?_
    have hn:=RR hdg (by omega)
    rw[show sb (ba t)=t from rfl]
    generalize d5 t=nd at *
    obtain⟨n,ok⟩:=nd
    simp only at hn ⊢
    have hw5:=bO (n:=0 - (n:Int))
    have hw6:=bO (n:= -(n:Int))
    have hfa:((a:Int)<(f:Int))=True:=bR (by omega)
    have hfn:(a<f)=True:=bR (by omega)
    cases ok
    case false=>
     simp only[aF,aB,seval,qT]
     refine⟨?_,(aH.refl _).aC hb⟩
     rw[aU (Or.inl trivial)]
     simp only[qI,a6,iJ,kU,gR,iK,jJ,bT,bF,bF]
    by_cases hz:(n:Int)=0
    case' pos=>have hz':n=0:=by omega
    case' neg=>have hz':n≠0:=by omega
    all_goals
     by_cases h9:(999:Int)<(n:Int)
     case' pos=>have h9':999<n:=by omega
     case' neg=>have h9':¬ 999<n:=by omega
     all_goals try (exfalso;omega)
     all_goals
      simp only[aF,hw5,hz,h9,hfa,aB,seval,qT]
      try
       refine(oI _ _).to ?_
       simp only[aF,aB,seval,qT]
      refine⟨?_,(aH.refl _).aC hb⟩
      first
       | rw[aU (by omega)]
       | rw[aS (by omega),aU (by omega),show f+t.length=j by omega]
       | rw[aS (by omega),aS (by omega),show f+t.length=j by omega]
      simp only[qI,a6,iJ,kU,gR,iK,qO,jJ,bT,bF,bF,Int.zero_sub]
 · skip
   simp only[aB,seval]
   obtain⟨f,rfl⟩:∃f,f=a:=⟨_,rfl⟩
   have hf:=ha
   refine fH (σ:=Nat) [1000000] [0,1,4,5,7] (fun j=>f≤j∧j≤f+4∧j - f≤(((sb s).drop f).takeWhile cA).length) (fun j=>[(6,.int .i64 (j:Int))]) (fun _=>st.aC b (.cells [.int .i64 0,.int .i64 0,.str ⟨#[]⟩,.fslice []])) (fun j=>f+4 - j) (by decide +kernel) ⟨f,⟨by omega,by omega,by omega⟩,aL.mk (by simp only[aB,seval])⟩ ?_
   rintro j ⟨hj1,hj4,hj⟩
   have hfi:j≤s.size:=by have:=vX cA ((sb s).drop f);rw[kG,bL] at this;omega
   simp only[aB,seval]
   refine(qG s j _).to ?_
   have hw4:=bO (n:=(f:Int)+4)
   have uZ:=bO (n:=(j:Int)+1)
   simp only[aB,seval]
   refine cU (fun h5=>?_) (fun h5=>?_)
   simp only[h5,hw4,aB,seval]
   refine aW (fun h6=>?_) (fun h6=>?_)
   case' refine_1.refine_1=>
    rw[show j=f+(j - f) by omega,←sG] at h5
    simp only[bK] at h6
    simp only[uZ,aB,seval]
    exact⟨j+1,by omega,⟨by omega,by omega,by have:=DR hj h5;omega⟩,aL.mk (by simp only[aB,seval]<;>rfl)⟩
   all_goals
    have ht:(((sb s).drop f).takeWhile cA).take 4=((sb s).drop f).take (j - f):=by
     rw[UI hj]
     rcases iZ (j - f) 4 with h7 | h7
     · have h8:j - f=(((sb s).drop f).takeWhile cA).length:=by
        refine DQ hj ?_
        rw[sG,show f+(j - f)=j by omega]
        first | exact h5 | (simp only[dF] at h6;omega)
       rw[h8,fZ,kH (by omega)]
     · rw[show j - f=4 by omega]
    have hex:s.extract f j=ba ((((sb s).drop f).takeWhile cA).take 4):=by rw[uE,ht]
    have hln:((((sb s).drop f).takeWhile cA).take 4).length=j - f:=by rw[ht,dZ,kG,bL];omega
    have hdg:∀x∈(((sb s).drop f).takeWhile cA).take 4,cA x=true:=fun x hx=>UH x (mZ hx)
    have hsl:=fun(φ:AF) (y z:Operand) (h:φ.eval y=.int .i64 (f:Int)) (h':φ.eval z=.int .i64 (j:Int))=>vL (s:=s) h h' hj1 hfi
    rw[hex] at hsl
    have hrd:mO (sb s) f=if(d5 ((((sb s).drop f).takeWhile cA).take 4)).2=false∨(f<f∧(d5 ((((sb s).drop f).takeWhile cA).take 4)).1=0)∨999<(d5 ((((sb s).drop f).takeWhile cA).take 4)).1 then none else some (if f<f then -((d5 ((((sb s).drop f).takeWhile cA).take 4)).1:Int) else((d5 ((((sb s).drop f).takeWhile cA).take 4)).1:Int),f+((((sb s).drop f).takeWhile cA).take 4).length):=by
     unfold mO
     simp only[h1,↓reduceIte,fJ]
    rw[hrd]
    clear hrd
    generalize (((sb s).drop f).takeWhile cA).take 4=t at *
    simp only[hsl,h5,aB,seval]
    refine(E0 (ba t) hdg (by show t.length≤4;omega) _).to ?_
    have hn:=RR hdg (by omega)
    rw[show sb (ba t)=t from rfl]
    generalize d5 t=nd at *
    obtain⟨n,ok⟩:=nd
    simp only at hn ⊢
    have hw5:=bO (n:=0 - (n:Int))
    have hw6:=bO (n:= -(n:Int))
    have hfa:((f:Int)<(f:Int))=False:=bC (by omega)
    have hfn:(f<f)=False:=bC (by omega)
    cases ok
    case false=>
     simp only[aF,aB,seval,qT]
     refine⟨?_,(aH.refl _).aC hb⟩
     rw[aU (Or.inl trivial)]
     simp only[qI,a6,iJ,kU,gR,iK,jJ,bT,bF,bF]
    by_cases hz:(n:Int)=0
    case' pos=>have hz':n=0:=by omega
    case' neg=>have hz':n≠0:=by omega
    all_goals
     by_cases h9:(999:Int)<(n:Int)
     case' pos=>have h9':999<n:=by omega
     case' neg=>have h9':¬ 999<n:=by omega
     all_goals try (exfalso;omega)
     all_goals
      simp only[aF,hz,h9,hfa,aB,seval,qT]
      try
       refine(oI _ _).to ?_
       simp only[aF,aB,seval,qT]
      refine⟨?_,(aH.refl _).aC hb⟩
      first
       | rw[aU (by omega)]
       | rw[aS (by omega),aU (by omega),show f+t.length=j by omega]
       | rw[aS (by omega),aS (by omega),show f+t.length=j by omega]
      simp only[qI,a6,iJ,kU,gR,iK,qO,jJ,bT,bF,bF]
def qH(o:Option (ByteArray×Nat)):AV:=match o with | some (b,e)=>.tup [.str b,.int .i64 (e:Int)] | none=>.tup [.str ⟨#[]⟩,.int .i64 (-1)]
theorem XV(st:aA):aD prog 346 [] st (fun r st'=>r=.slice (eD.map .str)∧st'=st):=aD.done ((E6 st).mono (by rintro _ _ ⟨rfl,rfl⟩;exact⟨rfl,aH.refl _⟩))
abbrev qU:=zi aZ (zi b7 jK)
set_option maxHeartbeats 1000000 in
theorem BB(s:ByteArray)(hs:s.size≤1000)(a:Nat)(ha:a≤s.size)(st:aA):aD prog 354 [.str s,.int .i64 (a:Int)] st (fun r st'=>r=qH (jI (sb s) a)∧st'=st):=by
 refine wF [1000000] 2 func354 ntmps354 rfl rfl ?_
 intro _
 simp only[aB,seval]
 refine fH (σ:=Nat) [1000000] [0,1,4,5] (fun j=>a≤j∧j - a≤(((sb s).drop a).takeWhile letter).length) (fun j=>[(6,.int .i64 (j:Int))]) (fun _=>st) (fun j=>s.size - j) (by decide +kernel) ⟨a,⟨by omega,by omega⟩,aL.mk (by simp only[aB,seval])⟩ ?_
 rintro j ⟨hj1,hj⟩
 have hfi:j≤s.size:=by have:=vX letter ((sb s).drop a);rw[kG,bL] at this;omega
 simp only[aB,seval]
 refine(RN s j _).to ?_
 have hw6:=bO (n:=(a:Int)+6)
 have uZ:=bO (n:=(j:Int)+1)
 simp only[aB,seval]
 refine aW (fun h5=>?_) (fun h5=>?_)
 · have hlt:=aCZ h5
   rw[show j=a+(j - a) by omega,←sG] at h5
   simp only[uZ,aB,seval]
   exact⟨j+1,by rw[bL] at hlt;omega,⟨by omega,by have:=DR hj h5;omega⟩,aL.mk (by simp only[aB,seval]<;>rfl)⟩
 rw[show j=a+(j - a) by omega,←sG] at h5
 have he:=DQ hj h5
 have hex:s.extract a j=ba (((sb s).drop a).takeWhile letter):=by rw[uE,he,UJ]
 have hsl:=fun(φ:AF) (y z:Operand) (h:φ.eval y=.int .i64 (a:Int)) (h':φ.eval z=.int .i64 (j:Int))=>vL (s:=s) h h' hj1 hfi
 rw[hex] at hsl
 simp only[hw6,aB,seval]
 refine aW (fun h6=>?_) (fun h6=>?_)
 · simp only[bK] at h6
   simp only[aB,seval]
   unfold jI
   rw[aU (by omega)]
   try rfl
 simp only[dF] at h6
 simp only[aB,seval]
 refine aW (fun h7=>?_) (fun h7=>?_)
 · simp only[bK] at h7
   simp only[hsl,aB,seval]
   unfold jI
   rw[aS (by omega),aU (by omega),←he,show a+(j - a)=j by omega]
   try rfl
 simp only[dF] at h7
 obtain rfl:j=a:=by omega
 have hrd:jI (sb s) j=if(eD.foldl (fK ((sb s).drop j)) ⟨#[]⟩).size=0 then none else some (eD.foldl (fK ((sb s).drop j)) ⟨#[]⟩,j+(eD.foldl (fK ((sb s).drop j)) ⟨#[]⟩).size):=by
  unfold jI
  rw[aS (by omega),aS (by omega)]
 rw[hrd]
 clear hrd
 simp only[aB,seval]
 refine(XV _).to ?_
 simp only[aB,seval]
 refine fH (σ:=Nat) [1000000] [0,1,4,5,8] (fun i=>i≤eD.length) (fun i=>[(7,.str ((eD.take i).foldl (fK ((sb s).drop j)) ⟨#[]⟩)),(9,.int .i64 (i:Int))]) (fun _=>st) (fun i=>eD.length - i) (by decide +kernel) ⟨0,by omega,aL.mk (by simp only[k9,List.foldl_nil,aB,↓bG,seval])⟩ ?_
 intro i hi
 have hbl:=WF ((sb s).drop j) i
 simp only[aG,aB,seval,qU]
 refine aW (fun h8=>?_) (fun h8=>?_)
 case refine_2=>
  simp only[dF] at h8
  rw[show i=eD.length by omega,fZ] at hbl ⊢
  generalize eD.foldl (fK ((sb s).drop j)) ⟨#[]⟩=g at *
  have hw7:=bO (n:=(j:Int)+(g.size:Int))
  simp only[aB,seval]
  refine aW (fun h9=>?_) (fun h9=>?_)
  · simp only[bK] at h9
    subst h9
    simp only[aB,seval]
    rfl
  · simp only[dF] at h9
    simp only[hw7,aB,seval,qU]
    rw[aS fun h=>h9 (V9 h)]
    try rfl
 simp only[bK] at h8
 obtain⟨g,hg⟩:∃g,eD[i]?=some g:=⟨_,eA (by omega)⟩
 have hat:=cJ (av:=AV.str) nN hg rfl
 have hgl:=SQ g (c8 hg)
 have h15:eD.length=15:=rfl
 obtain⟨m,hm⟩:∃m,m=j+g.size:=⟨_,rfl⟩
 have hwn:=iW (x:=(j:Int)+(g.size:Int)) (m:=m) (by omega) (by omega)
 have hw1:=bO (n:=(i:Int)+1)
 have gJ:(eD.take (i+1)).foldl (fK ((sb s).drop j)) ⟨#[]⟩=fK ((sb s).drop j) ((eD.take i).foldl (fK ((sb s).drop j)) ⟨#[]⟩) g:=by
  rw[gW,hg,List.foldl_append];try rfl
 generalize hB:(eD.take i).foldl (fK ((sb s).drop j)) ⟨#[]⟩=B at *
 simp only[hat,aB,seval,qU]
 refine wP [(0,1),(1,1),(2,1),(3,1),(4,1),(5,1),(6,1),(7,1),(8,1),(9,1),(10,1),(11,1),(12,1),(13,1),(14,1),(15,1),(16,2),(17,1),(18,1),(19,1),(20,1),(21,1),(22,1),(23,1),(24,1)] [0,1,2,3,4,5,6,7,8,9,10,11,12,13,14,15,16,17,18,19,20,21,22,23,24] mixed ?_
 by_cases hle:m≤s.size
 · have hex:s.extract j m=ba (((sb s).drop j).take g.size):=by rw[uE,hm,Nat.add_sub_cancel_left]
   have hsl:=fun(φ:AF) (y z:Operand) (h:φ.eval y=.int .i64 (j:Int)) (h':φ.eval z=.int .i64 (m:Int))=>vL (s:=s) h h' (by omega) hle
   rw[hex] at hsl
   have p6:((m:Int)≤(s.size:Int))=True:=bR (by omega)
   by_cases heq:ba (((sb s).drop j).take g.size)=g
   · by_cases hlt:B.size<g.size
     · have b9:((B.size:Int)<(g.size:Int))=True:=bR (by omega)
       have hb:fK ((sb s).drop j) B g=g:=by unfold fK;rw[aU ⟨fR sb heq,hlt⟩]
       simp only[hat,hwn,hw1,p6,hsl,heq,b9,a8,aB,seval,qU]
       exact⟨i+1,by omega,by omega,aL.mk (by simp only[gJ,hb,aB,seval])⟩
     · have b9:((B.size:Int)<(g.size:Int))=False:=bC (by omega)
       have hb:fK ((sb s).drop j) B g=B:=by unfold fK;rw[aS fun h=>hlt h.2]
       simp only[hat,hwn,hw1,p6,hsl,heq,b9,a8,bB,aB,seval,qU]
       exact⟨i+1,by omega,by omega,aL.mk (by simp only[gJ,hb,aB,seval])⟩
   · have hb:fK ((sb s).drop j) B g=B:=by unfold fK;rw[aS fun h=>heq (by rw[h.1])]
     simp only[hat,hwn,hw1,p6,hsl,heq,a8,bB,aB,seval,qU]
     exact⟨i+1,by omega,by omega,aL.mk (by simp only[gJ,hb,aB,seval])⟩
 · have p6:((m:Int)≤(s.size:Int))=False:=bC (by omega)
   have hb:fK ((sb s).drop j) B g=B:=by
    unfold fK
    rw[aS]
    rintro⟨h,_⟩
    have:=fR List.length h
    rw[dZ,kG,bL,bL] at this
    omega
   simp only[hwn,hw1,p6,bB,aB,seval,qU]
   exact⟨i+1,by omega,by omega,aL.mk (by simp only[gJ,hb,aB,seval])⟩
end Go.AW
namespace Go.AW
def d9(nm:ByteArray):Bool:=decide (nm=⟨#[105,115]⟩)||decide (nm=⟨#[109,111,100]⟩)
def kC(l:List UInt8)(a:Nat):Option (ByteArray×Nat):=
 let f:=if bJ l a 32 then a+1 else a
 if l.length≤f then none else match jI l f with
 | none=>none
 | some (nm,e)=>if cG nm=0 then none else if d9 nm≠decide (a<f)∨(d9 nm=true∧bJ l e 32=false) then none else some (nm,if d9 nm then e+1 else e)
abbrev gC:=Nat→Option (Tm×Nat)
def kY(R:gC)(l:List UInt8)(c1 c2:Nat):Nat→Nat→List Tm→Option (List Tm×Nat)
 | 0,_,_=>none
 | n+1,a,acc=>match R a with
  | none=>none
  | some (t,e)=>if(bJ l e c1||bJ l e c2)=true then some (acc++ [t],e) else if bJ l e 44 then kY R l c1 c2 n (e+1) (acc++ [t]) else none
abbrev jF (nm:ByteArray) (ts:List Tm):Tm:=.mk 3 0 nm ts
def nK:List Tm→Tm→Tm
 | [],t=>t
 | x::xs,t=>jF ⟨#[46]⟩ [x,nK xs t]
def qC(R:gC)(l:List UInt8)(a:Nat):Option (Tm×Nat):=
 match kY R l 93 124 (l.length+1) a [] with
 | none=>none
 | some (ts,e)=>if bJ l e 93 then some (nK ts (jF ⟨#[91,93]⟩ []),e+1) else match R (e+1) with
  | none=>none
  | some (t,e')=>if bJ l e' 93 then some (nK ts t,e'+1) else none
def xB(l:List UInt8)(a:Nat):Nat:=match l[a]? with | some x=>x.toNat | none=>0
def iI(R:Nat→gC)(l:List UInt8)(d a:Nat):Option (Tm×Nat):=
 if d<1∨l.length≤a then none
 else if bJ l a 40 then match R d (a+1) with
  | none=>none
  | some (t,e)=>if bJ l e 41 then some (t,e+1) else none
 else if(bJ l a 91&& !bJ l (a+1) 93)=true then qC (R (d - 1)) l (a+1)
 else if dC l a lW then some (vr ((xB l a - 65:Nat):Int),a+1)
 else if(dC l a cA||(bJ l a 45&&dC l (a+1) cA))=true then match mO l a with
  | none=>none
  | some (n,e)=>some (.mk 2 n ⟨#[]⟩ [],e)
 else match jI l a with
  | none=>none
  | some (nm,e)=>if bJ l e 40=false then some (jF nm [],e) else match kY (R (d - 1)) l 41 41 (l.length+1) (e+1) [] with
   | none=>none
   | some (ts,e')=>some (jF nm ts,e'+1)
def sQ(R:gC)(l:List UInt8)(lev:Nat):Nat→Tm→Nat→Option (Tm×Nat)
 | 0,_,_=>none
 | n+1,left,e=>match kC l e with
  | none=>some (left,e)
  | some (nm,e1)=>if cG nm≠lev then some (left,e) else match R e1 with
   | none=>none
   | some (rt,e2)=>if lev=3 then some (jF nm [left,rt],e2) else sQ R l lev n (jF nm [left,rt]) e2
def rd(l:List UInt8):Nat→Nat→Nat→Nat→Option (Tm×Nat)
 | 0,_,_,_=>none
 | n+1,d,a,0=>iI (fun d a=>rd l n d a 3) l d a
 | n+1,d,a,lv+1=>match rd l n d a lv with
  | none=>none
  | some (t,e)=>sQ (fun a=>rd l n d a lv) l (lv+1) (l.length+1) t e
theorem aE0{l:List UInt8}{a c:Nat}(ha:a≤l.length):a≤(if bJ l a c=true then a+1 else a)∧(if bJ l a c=true then a+1 else a)≤l.length:=by
 split
 · have:=jE ‹_›;omega
 · omega
theorem aEL{l:List UInt8}{a:Nat}{x:Int}{e:Nat}(ha:a≤l.length)(h:mO l a=some (x,e)):a<e∧e≤l.length:=by
 unfold mO at h
 have hf:=aE0 (c:=45) ha
 simp only at h
 generalize (if bJ l a 45=true then a+1 else a)=f at h hf
 split at h
 · cases h
 rename_i h1
 simp only[Option.some.injEq,Prod.mk.injEq] at h
 obtain⟨_,rfl⟩:=h
 have h2:(((l.drop f).takeWhile cA).take 4).length≠0:=by
  intro h0
  refine h1 (Or.inl ?_)
  unfold d5
  rw[aU (Or.inl h0)]
 have h3:=vX cA (l.drop f)
 rw[kG] at h3
 have h4:(((l.drop f).takeWhile cA).take 4).length≤((l.drop f).takeWhile cA).length:=by rw[dZ];omega
 omega
theorem EQ(L:List UInt8):∀(gs:List ByteArray) (b:ByteArray),b.size≤L.length→(gs.foldl (fK L) b).size≤L.length
 | [],b,h=>h
 | g::gs,b,h=>by
  rw[tJ]
  refine EQ L gs _ ?_
  unfold fK
  split
  · rename_i h1
    have:=fR List.length h1.1
    rw[dZ,bL] at this
    omega
  · exact h
theorem vF{l:List UInt8}{a:Nat}{x:ByteArray}{e:Nat}(ha:a≤l.length)(h:jI l a=some (x,e)):a<e∧e≤l.length:=by
 unfold jI at h
 simp only at h
 have h3:=vX letter (l.drop a)
 rw[kG] at h3
 split at h
 · cases h
 split at h
 · cases h;omega
 split at h
 · cases h
 · have:=EQ (l.drop a) eD ⟨#[]⟩ (i7 _)
   rw[kG] at this
   cases h;omega
theorem R7{l:List UInt8}{a:Nat}{x:ByteArray}{e:Nat}(h:kC l a=some (x,e)):a<e∧e≤l.length∧cG x≠0:=by
 unfold kC at h
 have h6:a≤(if bJ l a 32=true then a+1 else a):=by split<;>omega
 simp only at h
 generalize (if bJ l a 32=true then a+1 else a)=f at h h6
 split at h
 · cases h
 rename_i h1
 split at h
 · cases h
 rename_i nm e0 h2
 have h3:=vF (by omega) h2
 split at h
 · cases h
 rename_i h7
 split at h
 · cases h
 rename_i h4
 simp only[Option.some.injEq,Prod.mk.injEq] at h
 obtain⟨rfl,rfl⟩:=h
 split
 · rename_i h5
   have:bJ l e0 32=true:=by
    cases hb:bJ l e0 32 with
    | true=>rfl
    | false=>exact absurd (Or.inr ⟨h5,hb⟩) h4
   have:=jE this
   exact⟨by omega,by omega,h7⟩
 · exact⟨by omega,by omega,h7⟩
def oA(R:gC)(l:List UInt8):Prop:=∀a t e,a≤l.length→R a=some (t,e)→a<e∧e≤l.length∧Dn t
theorem zL{R:gC}{l:List UInt8}{c1 c2:Nat}(hR:oA R l):∀(n a:Nat) (acc:List Tm) (ts:List Tm) (e:Nat),a≤l.length→(∀x∈acc,Dn x)→kY R l c1 c2 n a acc=some (ts,e)→a<e∧e<l.length∧(∀x∈ts,Dn x)∧ts.length≤acc.length+n∧(bJ l e c1=true∨bJ l e c2=true):=by
 intro n
 induction n with
 | zero=>intro a acc ts e _ _ h;cases h
 | succ n ih=>
  intro a acc ts e ha uR h
  unfold kY at h
  split at h
  · cases h
  rename_i t e1 h1
  obtain⟨h2,h3,h4⟩:=hR a t e1 ha h1
  have uS:∀x∈acc++ [t],Dn x:=by intro x hx;rw[iY] at hx;rcases hx with hx | hx;exact uR x hx;rw[wK] at hx;subst hx;exact h4
  split at h
  · rename_i h5
    cases h
    rw[pI] at h5
    refine⟨h2,?_,uS,by rw[dI,AC];omega,h5⟩
    rcases h5 with h5 | h5<;>exact jE h5
  split at h
  · rename_i h5
    have h6:=jE h5
    obtain⟨g1,g2,g3,g4,g5⟩:=ih (e1+1) _ ts e (by omega) uS h
    rw[dI,AC] at g4
    exact⟨by omega,g2,g3,by omega,g5⟩
  · cases h
theorem BO{nm:ByteArray}{ts:List Tm}(hl:ts.length≤1048576)(h:∀x∈ts,Dn x):Dn (jF nm ts):=nM (by decide) hl h
theorem BP{nm:ByteArray}{x y:Tm}(hx:Dn x)(hy:Dn y):Dn (jF nm [x,y]):=BO (by simp) (by intro z hz;simp only[dS,gB,fU] at hz;rcases hz with rfl | rfl;exact hx;exact hy)
theorem F1{nm:ByteArray}:Dn (jF nm []):=BO (by simp) (by simp)
theorem BH{t:Tm}(ht:Dn t):∀ts:List Tm,(∀x∈ts,Dn x)→Dn (nK ts t)
 | [],_=>ht
 | x::xs,h=>BP (h x (by simp)) (BH ht xs fun y hy=>h y (by simp [hy]))
theorem aC0{R:gC}{l:List UInt8}(hR:oA R l)(hl:l.length≤1000){a:Nat}{t:Tm}{e:Nat}(ha:a≤l.length)(h:qC R l a=some (t,e)):a<e∧e≤l.length∧Dn t:=by
 unfold qC at h
 split at h
 · cases h
 rename_i ts e1 h1
 obtain⟨g1,g2,g3,g4,g5⟩:=zL hR _ _ _ _ _ ha (by simp) h1
 split at h
 · cases h
   exact⟨by omega,by omega,BH F1 _ g3⟩
 split at h
 · cases h
 rename_i t2 e2 h2
 obtain⟨k1,k2,k3⟩:=hR _ _ _ (by omega) h2
 split at h
 · rename_i h5
   cases h
   have:=jE h5
   exact⟨by omega,by omega,BH k3 _ g3⟩
 · cases h
theorem aED{R:Nat→gC}{l:List UInt8}(hR:∀d,oA (R d) l)(hl:l.length≤1000){d a:Nat}{t:Tm}{e:Nat}(h:iI R l d a=some (t,e)):a<e∧e≤l.length∧Dn t:=by
 unfold iI at h
 split at h
 · cases h
 rename_i h0
 have ha:a<l.length:=by omega
 split at h
 · split at h
   · cases h
   rename_i t1 e1 h1
   obtain⟨k1,k2,k3⟩:=hR _ _ _ _ (by omega) h1
   split at h
   · rename_i h5
     cases h
     have:=jE h5
     exact⟨by omega,by omega,k3⟩
   · cases h
 split at h
 · obtain⟨k1,k2,k3⟩:=aC0 (hR _) hl (by omega) h
   exact⟨by omega,k2,k3⟩
 split at h
 · cases h
   exact⟨by omega,by omega,xK _⟩
 split at h
 · split at h
   · cases h
   rename_i n e1 h1
   cases h
   have:=aEL (by omega) h1
   exact⟨this.1,this.2,nM (by decide) (by simp) (by simp)⟩
 split at h
 · cases h
 rename_i nm e1 h1
 have g:=vF (by omega) h1
 split at h
 · cases h
   exact⟨g.1,g.2,F1⟩
 split at h
 · cases h
 rename_i h6 _ ts e2 h2
 have h7:bJ l e1 40=true:=by simpa using h6
 have h8:=jE h7
 obtain⟨k1,k2,k3,k4,k5⟩:=zL (hR _) _ _ _ _ _ (by omega) (by simp) h2
 cases h
 refine⟨by omega,by omega,BO ?_ k3⟩
 rw[bN] at k4
 omega
theorem aD6{R:gC}{l:List UInt8}(hR:oA R l)(lev:Nat):∀(n:Nat) (t0:Tm) (e0:Nat) (t:Tm) (e:Nat),e0≤l.length→Dn t0→sQ R l lev n t0 e0=some (t,e)→e0≤e∧e≤l.length∧Dn t:=by
 intro n
 induction n with
 | zero=>intro t0 e0 t e _ _ h;cases h
 | succ n ih=>
  intro t0 e0 t e h0 ht h
  unfold sQ at h
  split at h
  · cases h;exact⟨by omega,h0,ht⟩
  rename_i nm e1 h1
  have g:=R7 h1
  split at h
  · cases h;exact⟨by omega,h0,ht⟩
  split at h
  · cases h
  rename_i rt e2 h2
  obtain⟨k1,k2,k3⟩:=hR _ _ _ g.2.1 h2
  split at h
  · cases h;exact⟨by omega,k2,BP ht k3⟩
  · obtain⟨q1,q2,q3⟩:=ih _ _ _ _ k2 (BP ht k3) h
    exact⟨by omega,q2,q3⟩
theorem qM{l:List UInt8}(hl:l.length≤1000):∀(n d lv:Nat),oA (fun a=>rd l n d a lv) l:=by
 intro n
 induction n with
 | zero=>intro d lv a t e _ h;cases h
 | succ n ih=>
  intro d lv a t e ha h
  cases lv with
  | zero=>
   simp only[rd] at h
   exact aED (fun d=>ih d 3) hl h
  | succ lv=>
   simp only[rd] at h
   split at h
   · cases h
   rename_i t1 e1 h1
   obtain⟨k1,k2,k3⟩:=ih d lv a t1 e1 ha h1
   obtain⟨q1,q2,q3⟩:=aD6 (ih d lv) _ _ _ _ _ _ k2 k3 h
   exact⟨by omega,q2,q3⟩
end Go.AW
