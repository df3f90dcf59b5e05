import Derived.Test.YtieofkhcboolkaaGreatDoorWaq
import Derived.Test.YtieofkhcboolkaaGreatDoorWan
import Derived.Test.YtieofkhcboolkaaGreatDoorWaf
import Derived.Test.YtieofkhcboolkaaGreatDoorWao
import Derived.Test.YtieofkhcboolkaaGreatDoorWal
import Derived.Test.YtieofkhcboolkaaGreatDoorWam
import Derived.Lib.Join
import Derived.Test.YtieofkhcboolkaaGreatDoorWap
import Derived.Shelf.Strings.OnBuilder
set_option linter.unusedSimpArgs false
set_option linter.unusedVariables false
set_option maxRecDepth 100000
namespace Go.AW
open Go.Proofs.Tryz
abbrev yY:=zi aX (zi bS (zi bQ mB))
theorem aUD(k n:Int)(s:ByteArray)(ks ts:List Tm)(h1:(Tm.mk k n s ks).small=true)(h2:ts.length≤1048576)(h3:∀x∈ts,x.small=true)(st:aB):aD prog 203 [bX (.mk k n s ks,ts)] st (fun r st'=>∃b,r=.agg [.int .i64 k,.int .i64 n,.str s,.slice (ks.map Tm.av),bE 4 b (ts.map Tm.av)]∧st'=a7 st b (ts.map Tm.av)∧(ts.map Tm.av≠[]→st b=none)):=by
 have hhd:=fun st=>xT (.mk k n s ks) st h1
 simp only[aU] at hhd
 have IH:=fun(x:Tm) (hx:x∈ts) st=>xT x st (h3 x hx)
 have hlen:ts.length≤1048576:=h2
 refine aD.mL ?_
 simp only[gN]
 refine wF [] 1 func203 ntmps203 rfl rfl ?_
 simp only[d7,AV.fits,d9,aE]
 intro ⟨_,_,_,_,hl,_⟩
 simp only[aA,seval,yY]
 intro b2 hb2
 refine(hhd _).to ?_
 simp only[aK,aA,seval,yY]
 intro c hc
 have hne:c≠b2:=by rintro rfl;rw[aB.aO] at hc;cases hc
 have hn2:st c=none:=by rw[aB.aM st _ hne] at hc;exact hc
 have kP:b2≠c:=c7 hne
 refine dV (σ:=Nat) [] [1,2,3] ts (fun i b=>(((ts.take i).map (fun y=>y)).map Tm.av≠[]→(aB.aC (st.aC b2 (.cells [AV.int .i64 0,AV.int .i64 0,AV.str ⟨#[]⟩,AV.fslice [],AV.fslice []])) c (.cells ([AV.int .i64 k,AV.int .i64 n,AV.str s,AV.slice (ks.map Tm.av)]++ [bE 4 b (((ts.take i).map (fun y=>y)).map Tm.av)]))) b=none)) (fun i b=>[(4,.int .i64 i)]) (fun i b=>eY (st.aC b2 (.cells [AV.int .i64 0,AV.int .i64 0,AV.str ⟨#[]⟩,AV.fslice [],AV.fslice []])) c b [AV.int .i64 k,AV.int .i64 n,AV.str s,AV.slice (ks.map Tm.av)] (((ts.take i).map (fun y=>y)).map Tm.av)) (by decide +kernel)
  ⟨0,fun h=>absurd rfl h,aN.mk (by simp only[aA,↓aR,seval])⟩ (fun i x b hx hlt bH hdr hinv=>?_) (fun b hge hinv=>?_)
 case refine_1=>
  have hw:=bL (n:=(i:Int)+1)
  have cF:(((ts.take i).map (fun y=>y)).map Tm.av).length=i:=by simp only[aE,dC];omega
  have htk:(ts.take (i+1)).map (fun y=>y)=(ts.take i).map (fun y=>y)++ [(fun y=>y) x]:=by rw[eA,hx];simp
  have hbo:=eF hinv
  simp only[aE,bH,aA,seval,yY]
  refine wP [(0,1),(2,1),(4,1),(1,2),(3,2),(5,1),(6,2),(7,2),(8,1),(9,0),(10,1),(11,0)] [0,2,4,1,3,5,6,7,8,10] mixed ?_
  simp only[bD (av:=Tm.av) a8 hx (aH x),aT,aH,hbo,lQ,fZ,aA,seval,yY]
  refine fK (IH x (cD hx) _) ?_
  simp only[aT,aH,cC,fZ,aA,seval,yY]
  refine eD a8 fW fX rfl rfl (eO (aH _) (bT _)) (dS _) hinv (by simp only[cF,aS,aW];omega) (by simp only[cF,aS,aW];omega) (fun b' hb'=>?_)
  rw[show(((ts.take i).map (fun y=>y)).map Tm.av)++ [((fun y=>y) x).av]=((ts.take (i+1)).map (fun y=>y)).map Tm.av by rw[htk];simp] at hb' ⊢
  obtain⟨g1,g2,g3⟩:=nB hb'
  simp only[fC,eL] at g1 g3
  simp only[g3,lR,eT,aK,g1,hw,aK,aA,seval,yY]
  exact⟨b',g2,aN.mk (by simp only[aA,seval])⟩
 have hbo:=eF hinv
 rw[dW] at hinv hbo ⊢
 simp only[aE,hge,aA,seval,yY]
 simp only[hbo,aK,aA,seval,yY]
 have hS:(st.aC b2 (.cells [AV.int .i64 0,AV.int .i64 0,AV.str ⟨#[]⟩,AV.fslice [],AV.fslice []])) b2≠none:=by rw[aB.aO];simp
 have h1:=gJ hinv hS kP
 rw[aB.aO] at h1
 simp only[h1,eT,aA,seval]
 obtain⟨h2,h3⟩:=jW (o:=.cells [AV.int .i64 k,AV.int .i64 n,AV.str s,AV.slice (ks.map Tm.av),bE 4 b ((ts.map fun y=>y).map Tm.av)]) hinv hS kP
 simp only[fC,eL] at h2 h3
 rw[h2]
 have D:∀o o' o'',aL (((st.aC b2 o).aC c o').aC b2 o'') st:=fun o o' o''=>(((aL.refl _).aC hb2).aC hn2).aC hb2
 simp only[List.map_id'] at h3 ⊢
 exact⟨_,PL (D _ _ _),b,rfl,rfl,fun h=>(D _ _ _ b).1 (h3 h)⟩
abbrev n8:=zi aX (zi cJ (zi bS (zi bQ (zi oW (zi mA mB)))))
set_option maxHeartbeats 2000000 in
theorem aUG(bs:List Bt)(c p:Nat)(cl:Cl)(hcl:uE cl)(st:aB)(hp:p+6000≤1099511627776)(hR:dG st c bs p) :
 aD prog 150 [.ptr c 0,bX cl] st (Dr bs c p 6000 st (fun r=>∃cl':Cl,r=bX cl')):=by
 obtain⟨⟨k,n,s,ks⟩,ts⟩:=cl
 obtain⟨d1,d2,d3⟩:=hcl
 simp only at d1 d2 d3
 have hcp:=fun st=>aUD k n s ks ts d1.2 (by omega) (fun x hx=>(d3 x hx).2) st
 simp only[gN] at hcp ⊢
 refine aD.mL (aD.fin ?_)
 refine wF [1000000,5] 2 func150 ntmps150 rfl rfl ?_
 intro _
 simp only[aA,seval,n8]
 intro b4 h4
 have h4c:=hR.ne h4
 have hR':=fun o=>hR.aC (o:=o) h4c
 refine(hcp _).mono ?_
 rintro _ _ ⟨b,rfl,rfl,hb⟩
 simp only[eT,aK,aA,↓aR,seval,n8]
 intro b5 h5
 obtain⟨hn5,hb5⟩:=CM h5
 have h54:b5≠b4:=by rintro rfl;rw[aB.aO] at hn5;cases hn5
 have QZ:st b5=none:=by rw[aB.aM _ _ h54] at hn5;exact hn5
 have h5c:b5≠c:=hR.ne QZ
 have hW4:∀q,((st.aC b4 (.cells [.int .i64 0,.int .i64 0,.str ⟨#[]⟩,.fslice [],.fslice []])).aC c (cA bs q)) b4=some (.cells [.int .i64 0,.int .i64 0,.str ⟨#[]⟩,.fslice [],.fslice []]):=fun q=>by rw[aB.aM _ _ h4c,aB.aO]
 have hdr:∀q Z Y,aL ((((st.aC b4 (.cells [.int .i64 0,.int .i64 0,.str ⟨#[]⟩,.fslice [],.fslice []])).aC c (cA bs q)).aC b5 Z).aC b4 Y) (st.aC c (cA bs q)):=fun q Z Y x=>by
  by_cases e4:x=b4<;>by_cases ec:x=c<;>by_cases e5:x=b5<;>simp_all [aB.aC]
 have e0:(a7 (st.aC b4 (.cells [.int .i64 0,.int .i64 0,.str ⟨#[]⟩,.fslice [],.fslice []])) b (ts.map Tm.av)).aC b5 (.cells [.int .i64 k,.int .i64 n,.str s,.slice (ks.map Tm.av),bE 4 b (ts.map Tm.av)])=eY (st.aC b4 (.cells [.int .i64 0,.int .i64 0,.str ⟨#[]⟩,.fslice [],.fslice []])) b5 b [.int .i64 k,.int .i64 n,.str s,.slice (ks.map Tm.av)] (ts.map Tm.av):=by
  rw[o9 hb5];try rfl
 have i0:ts.map Tm.av≠[]→((st.aC b4 (.cells [.int .i64 0,.int .i64 0,.str ⟨#[]⟩,.fslice [],.fslice []])).aC b5 (.cells ([.int .i64 k,.int .i64 n,.str s,.slice (ks.map Tm.av)]++ [bE 4 b (ts.map Tm.av)]))) b=none:=fun h=>by
  rw[aB.aM _ _ (c7 (hb5 h))];exact hb h
 have hUc:(st.aC b4 (.cells [.int .i64 0,.int .i64 0,.str ⟨#[]⟩,.fslice [],.fslice []])) c≠none:=by rw[hR' _];simp
 rw[e0]
 have hRk:dG (eY (st.aC b4 (.cells [.int .i64 0,.int .i64 0,.str ⟨#[]⟩,.fslice [],.fslice []])) b5 b [.int .i64 k,.int .i64 n,.str s,.slice (ks.map Tm.av)] (ts.map Tm.av)) c bs p:=by
  unfold dG
  rw[gJ i0 hUc h5c.symm]
  exact hR' _
 refine(mJ bs c p (by omega) 40 (by omega) (by omega) _ hRk).mono ?_
 rintro _ _ ⟨j,hj,rfl,rfl⟩
 obtain⟨e1,i1⟩:=qQ (o:=cA bs (p+1)) i0 hUc h5c.symm
 rw[e1]
 have hWc:∀q,((st.aC b4 (.cells [.int .i64 0,.int .i64 0,.str ⟨#[]⟩,.fslice [],.fslice []])).aC c (cA bs q)) c≠none:=fun q=>by rw[aB.aO];simp
 have hRq:∀q (hd l:List AV),(l≠[]→(((st.aC b4 (.cells [.int .i64 0,.int .i64 0,.str ⟨#[]⟩,.fslice [],.fslice []])).aC c (cA bs q)).aC b5 (.cells (hd++ [bE 4 b l]))) b=none)→dG (eY ((st.aC b4 (.cells [.int .i64 0,.int .i64 0,.str ⟨#[]⟩,.fslice [],.fslice []])).aC c (cA bs q)) b5 b hd l) c bs q:=fun q hd l hi=>by
  unfold dG
  rw[gJ hi (hWc q) h5c.symm,aB.aO]
  try rfl
 clear e0 i0 hRk e1
 simp only[aA,seval]
 refine aP (fun h0=>?_) (fun h0=>?_)
 · simp only[aA,seval]
   refine(XR bs c (p+1) _ (by omega) (hRq _ _ _ i1)).mono ?_
   rintro _ _ ⟨p1,q1,q2,rfl,t1,ht1,rfl⟩
   obtain⟨e1,i1⟩:=qQ (o:=cA bs p1) i1 (hWc _) h5c.symm
   rw[cY] at e1 i1
   rw[e1]
   simp only[aA,seval]
   refine(OW bs c p1 t1 ht1.2 _ (by omega) (hRq _ _ _ i1)).mono ?_
   rintro _ _ ⟨p2,r1,r2,rfl,⟨k',n',s',ks'⟩,rfl⟩
   obtain⟨e1,i1⟩:=qQ (o:=cA bs p2) i1 (hWc _) h5c.symm
   rw[cY] at e1 i1
   rw[e1]
   have hbo:=eF i1
   obtain⟨e2,i1⟩:=G5 (hd':=[.int .i64 k',.int .i64 n',.str s',.slice (ks'.map Tm.av)]) i1
   simp only[fC,eL] at e2
   rw[aU]
   simp only[aK,hbo,aA,seval,n8]
   rw[e2]
   have hbo:=eF i1
   have h4o:=gJ i1 (x:=b4) (by rw[hW4];simp) h54.symm
   rw[hW4] at h4o
   simp only[h4o,eT,aA,seval]
   obtain⟨g5,g6⟩:=jW (o:=.cells [.int .i64 (k'),.int .i64 (n'),.str (s'),.slice ((ks').map Tm.av),bE 4 b ((ts).map Tm.av)]) i1 (show((st.aC b4 (.cells [.int .i64 0,.int .i64 0,.str ⟨#[]⟩,.fslice [],.fslice []])).aC c (cA bs (p2))) b4≠none by rw[hW4];simp) h54.symm
   refine⟨b,_,_,g5,g6,iM _,⟨4,dS _⟩,st.aC c (cA bs (p2)),hdr _ _ _,p2,by omega,by omega,rfl,(.mk (k') (n') (s') (ks'),ts),?_⟩
   simp only[fO,aZ,aV,dZ,iD,gV,iJ,gN]
 simp only[aA,seval]
 refine aP (fun h0=>?_) (fun h0=>?_)
 · have hbo:=eF i1
   simp only[aA,seval]
   refine w8 [(0,1),(1,1),(2,1),(3,1),(4,0),(5,0),(6,1),(7,0),(8,1),(9,2)] [0,1,2,3,6,8] (eR.aC b5 (.cells [.int .i64 k,.int .i64 n,.str s,.slice (ks.map Tm.av),bE 4 b (ts.map Tm.av)])) mixed (by decide +kernel) (by decide +kernel) (by decide +kernel) rfl (fY hbo) ?_
   simp only[lQ,aA,seval,n8]
   refine(XR bs c (p+1) _ (by omega) (hRq _ _ _ i1)).mono ?_
   rintro _ _ ⟨p1,q1,q2,rfl,t1,ht1,rfl⟩
   obtain⟨e1,i1⟩:=qQ (o:=cA bs p1) i1 (hWc _) h5c.symm
   rw[cY] at e1 i1
   rw[e1]
   have hbo:=eF i1
   simp only[aA,seval]
   refine⟨fY hbo,?_⟩
   refine(OW bs c p1 t1 ht1.2 _ (by omega) (hRq _ _ _ i1)).mono ?_
   rintro _ _ ⟨p2,r1,r2,rfl,t2,rfl⟩
   obtain⟨e1,i1⟩:=qQ (o:=cA bs p2) i1 (hWc _) h5c.symm
   rw[cY] at e1 i1
   rw[e1]
   have hbo:=eF i1
   simp only[aT,aH,cC,aA,seval,n8]
   refine⟨fY hbo,?_⟩
   refine eD a8 fW fX rfl rfl (eO (aH _) (bT _)) (dS _) i1 (by simp only[aE,aS,aW];omega) (by simp only[aE,aS,aW];omega) (fun b' hb'=>?_)
   rw[show ts.map Tm.av++ [t2.av]=(ts++ [t2]).map Tm.av by simp] at hb' ⊢
   obtain⟨g1,g2,g3⟩:=nB hb'
   simp only[fC,eL] at g1 g3
   simp only[aK,eT,lR,aA,seval,n8]
   refine⟨fY g3,?_⟩
   simp only[g3,g1,aK,eT,aA,seval,n8]
   have hbo:=eF g2
   have h4o:=gJ g2 (x:=b4) (by rw[hW4];simp) h54.symm
   rw[hW4] at h4o
   simp only[h4o,aA,seval]
   obtain⟨g5,g6⟩:=jW (o:=.cells [.int .i64 (k),.int .i64 (n),.str (s),.slice ((ks).map Tm.av),bE 4 b' ((ts++ [t2]).map Tm.av)]) g2 (show((st.aC b4 (.cells [.int .i64 0,.int .i64 0,.str ⟨#[]⟩,.fslice [],.fslice []])).aC c (cA bs (p2))) b4≠none by rw[hW4];simp) h54.symm
   refine⟨b',_,_,g5,g6,iM _,⟨4,dS _⟩,st.aC c (cA bs (p2)),hdr _ _ _,p2,by omega,by omega,rfl,(.mk (k) (n) (s) (ks),ts++ [t2]),?_⟩
   simp only[fO,aZ,aV,dZ,iD,gV,iJ,gN]
 simp only[aA,seval]
 refine aP (fun h0=>?_) (fun h0=>?_)
 · simp only[aA,seval]
   refine iG (σ:=Nat×List Tm) [1000000,5] [0,4,5,9] (fun x=>(x.2.map Tm.av≠[]→(aB.aC ((st.aC b4 (.cells [.int .i64 0,.int .i64 0,.str ⟨#[]⟩,.fslice [],.fslice []])).aC c (cA bs (p+1))) b5 (.cells ([.int .i64 k,.int .i64 n,.str s,.slice (ks.map Tm.av)]++ [bE 4 x.1 (x.2.map Tm.av)]))) x.1=none)) (fun _=>[]) (fun x=>eY ((st.aC b4 (.cells [.int .i64 0,.int .i64 0,.str ⟨#[]⟩,.fslice [],.fslice []])).aC c (cA bs (p+1))) b5 x.1 [.int .i64 k,.int .i64 n,.str s,.slice (ks.map Tm.av)] (x.2.map Tm.av)) (fun x=>7 - x.2.length) (by decide +kernel) ⟨(b,ts),i1,aN.mk (by simp only[aA,seval])⟩ ?_
   rintro⟨b,acc⟩ i1
   simp only at i1
   have hbo:=eF i1
   have haL:=t7 (w:=4) (b:=b) (l:=acc.map Tm.av) UL
   simp only[hbo,lQ,haL,aE,aA,seval,n8]
   refine aP (fun h1=>?_) (fun h1=>?_)
   · simp only[bO] at h1
     have cF:(acc.map Tm.av).length≤6:=by rw[aE];omega
     simp only[aA,seval]
     refine w8 [(0,1),(1,1),(2,0),(3,1),(4,0),(5,1),(6,2)] [0,1,3,5] (eR.aC b5 (.cells [.int .i64 k,.int .i64 n,.str s,.slice (ks.map Tm.av),bE 4 b (acc.map Tm.av)])) mixed (by decide +kernel) (by decide +kernel) (by decide +kernel) rfl (fY hbo) ?_
     simp only[lQ,aA,seval,n8]
     refine(sS ⟨#[116,114,117,101]⟩ [] (by simp) _).to ?_
     simp only[aT,aH,cC,aA,seval,n8]
     refine⟨fY hbo,?_⟩
     refine eD a8 fW fX rfl rfl (eO (aH _) (bT _)) (dS _) i1 (by simp only[aS,aW];omega) (by simp only[aS,aW];omega) (fun b' hb'=>?_)
     rw[show acc.map Tm.av++ [(Tm.mk 3 0 ⟨#[116,114,117,101]⟩ []).av]=(acc++ [Tm.mk 3 0 ⟨#[116,114,117,101]⟩ []]).map Tm.av by simp] at hb' ⊢
     obtain⟨g1,g2,g3⟩:=nB hb'
     simp only[fC,eL] at g1 g3
     simp only[aK,eT,lR,aA,seval,n8]
     refine⟨fY g3,?_⟩
     simp only[g3,g1,aA,seval]
     refine⟨(b',acc++ [Tm.mk 3 0 ⟨#[116,114,117,101]⟩ []]),by simp only[dM,aS,aW];omega,g2,aN.mk (by simp only[aA,seval])⟩
   · simp only[aK,hbo,eT,aA,seval,n8]
     have hbo:=eF i1
     have h4o:=gJ i1 (x:=b4) (by rw[hW4];simp) h54.symm
     rw[hW4] at h4o
     simp only[h4o,aA,seval]
     obtain⟨g5,g6⟩:=jW (o:=.cells [.int .i64 (k),.int .i64 (n),.str (s),.slice ((ks).map Tm.av),bE 4 b ((acc).map Tm.av)]) i1 (show((st.aC b4 (.cells [.int .i64 0,.int .i64 0,.str ⟨#[]⟩,.fslice [],.fslice []])).aC c (cA bs (p+1))) b4≠none by rw[hW4];simp) h54.symm
     refine⟨b,_,_,g5,g6,iM _,⟨4,dS _⟩,st.aC c (cA bs (p+1)),hdr _ _ _,p+1,by omega,by omega,rfl,(.mk (k) (n) (s) (ks),acc),?_⟩
     simp only[fO,aZ,aV,dZ,iD,gV,iJ,gN]
 simp only[aA,seval]
 refine aP (fun h0=>?_) (fun h0=>?_)
 · simp only[aA,seval,n8]
   refine(F3 [⟨#[116,114,117,101]⟩,⟨#[105,115]⟩,⟨#[61]⟩,⟨#[109,111,100]⟩,⟨#[113]⟩] (by simp) (by simp) bs c (p+1) (by omega) _ (hRq _ _ _ i1)).mono ?_
   rintro _ _ ⟨y,_,rfl,rfl⟩
   obtain⟨e1,i1⟩:=qQ (o:=cA bs (p+1+1)) i1 (hWc _) h5c.symm
   rw[cY] at e1 i1
   rw[e1]
   have hbo:=eF i1
   obtain⟨e2,i1⟩:=G5 (hd':=[.int .i64 k,.int .i64 n,.str y,.slice (ks.map Tm.av)]) i1
   simp only[fC,eL] at e2
   simp only[aK,hbo,aA,seval,n8]
   rw[e2]
   have hbo:=eF i1
   have h4o:=gJ i1 (x:=b4) (by rw[hW4];simp) h54.symm
   rw[hW4] at h4o
   simp only[h4o,eT,aA,seval]
   obtain⟨g5,g6⟩:=jW (o:=.cells [.int .i64 (k),.int .i64 (n),.str (y),.slice ((ks).map Tm.av),bE 4 b ((ts).map Tm.av)]) i1 (show((st.aC b4 (.cells [.int .i64 0,.int .i64 0,.str ⟨#[]⟩,.fslice [],.fslice []])).aC c (cA bs (p+1+1))) b4≠none by rw[hW4];simp) h54.symm
   refine⟨b,_,_,g5,g6,iM _,⟨4,dS _⟩,st.aC c (cA bs (p+1+1)),hdr _ _ _,p+1+1,by omega,by omega,rfl,(.mk (k) (n) (y) (ks),ts),?_⟩
   simp only[fO,aZ,aV,dZ,iD,gV,iJ,gN]
 · simp only[aA,seval,n8]
   have hbo:=eF i1
   have h4o:=gJ i1 (x:=b4) (by rw[hW4];simp) h54.symm
   rw[hW4] at h4o
   simp only[aK,hbo,h4o,eT,aA,seval,n8]
   obtain⟨g5,g6⟩:=jW (o:=.cells [.int .i64 (k),.int .i64 (n),.str (s),.slice ((ks).map Tm.av),bE 4 b ((ts).map Tm.av)]) i1 (show((st.aC b4 (.cells [.int .i64 0,.int .i64 0,.str ⟨#[]⟩,.fslice [],.fslice []])).aC c (cA bs (p+1))) b4≠none by rw[hW4];simp) h54.symm
   refine⟨b,_,_,g5,g6,iM _,⟨4,dS _⟩,st.aC c (cA bs (p+1)),hdr _ _ _,p+1,by omega,by omega,rfl,(.mk (k) (n) (s) (ks),ts),?_⟩
   simp only[fO,aZ,aV,dZ,iD,gV,iJ,gN]
end Go.AW
namespace Go.AW
def IQ:List ByteArray:=[⟨#[97,112,112,40,91,93,44,65,44,65,41,46,10,97,112,112,40,91,65,124,66,93,44,67,44,91,65,124,68,93,41,58,45,97,112,112,40,66,44,67,44,68,41,46,10]⟩,
 ⟨#[109,101,109,40,65,44,91,65,124,66,93,41,46,10,109,101,109,40,65,44,91,66,124,67,93,41,58,45,109,101,109,40,65,44,67,41,46,10]⟩,
 ⟨#[112,40,49,41,46,10,112,40,50,41,46,10,112,40,51,41,46,10,113,40,65,41,58,45,112,40,65,41,44,65,62,49,44,33,46,10,114,40,65,44,66,41,58,45,112,40,65,41,44,112,40,66,41,46,10]⟩,
 ⟨#[108,101,110,40,91,93,44,48,41,46,10,108,101,110,40,91,65,124,66,93,44,67,41,58,45,108,101,110,40,66,44,68,41,44,67,32,105,115,32,68,43,49,46,10]⟩,
 ⟨#[109,97,120,40,65,44,66,44,65,41,58,45,65,62,61,66,44,33,46,10,109,97,120,40,65,44,66,44,66,41,46,10]⟩,
 ⟨#[101,40,97,44,98,41,46,10,101,40,98,44,99,41,46,10,101,40,99,44,100,41,46,10,116,40,65,44,66,41,58,45,101,40,65,44,66,41,46,10,116,40,65,44,66,41,58,45,101,40,65,44,67,41,44,116,40,67,44,66,41,46,10]⟩,
 ⟨#[108,111,111,112,58,45,108,111,111,112,46,10,111,107,46,10]⟩,
 ⟨#[102,97,99,40,48,44,49,41,58,45,33,46,10,102,97,99,40,65,44,66,41,58,45,65,62,48,44,67,32,105,115,32,65,45,49,44,102,97,99,40,67,44,68,41,44,66,32,105,115,32,65,42,68,46,10]⟩,
 ⟨#[115,40,65,41,58,45,65,61,102,40,66,41,44,97,114,103,40,49,44,65,44,66,41,44,66,61,49,46,10,115,40,65,41,58,45,118,97,114,40,65,41,44,65,61,110,111,110,101,46,10]⟩,
 ⟨#[114,101,118,40,91,93,44,65,44,65,41,46,10,114,101,118,40,91,65,124,66,93,44,67,44,68,41,58,45,114,101,118,40,66,44,91,65,124,67,93,44,68,41,46,10]⟩,
 ⟨#[98,97,100,40,65,41,58,45,66,32,105,115,32,65,43,102,111,111,44,67,61,66,46,10,98,105,103,40,65,41,58,45,65,32,105,115,32,57,57,57,43,49,46,10,117,110,40,65,41,58,45,110,111,115,117,99,104,40,65,41,46,10]⟩]
def UJ:List ByteArray:=[⟨#[97,112,112,40,65,44,66,44,91,49,44,50,93,41]⟩,
 ⟨#[97,112,112,40,91,49,93,44,91,50,93,44,65,41]⟩,
 ⟨#[109,101,109,40,65,44,91,97,44,98,44,99,93,41]⟩,
 ⟨#[113,40,65,41]⟩,
 ⟨#[114,40,65,44,66,41,44,65,62,66]⟩,
 ⟨#[108,101,110,40,91,97,44,98,44,99,93,44,65,41]⟩,
 ⟨#[109,97,120,40,51,44,50,44,65,41]⟩,
 ⟨#[109,97,120,40,65,44,50,44,51,41]⟩,
 ⟨#[116,40,97,44,65,41]⟩,
 ⟨#[108,111,111,112]⟩,
 ⟨#[111,107,44,33]⟩,
 ⟨#[102,97,99,40,52,44,65,41]⟩,
 ⟨#[115,40,65,41]⟩,
 ⟨#[114,101,118,40,91,49,44,50,44,51,93,44,91,93,44,65,41]⟩,
 ⟨#[98,97,100,40,65,41]⟩,
 ⟨#[98,105,103,40,65,41]⟩,
 ⟨#[117,110,40,65,41]⟩,
 ⟨#[112,40,65,41,44,33,44,112,40,66,41]⟩,
 ⟨#[65,61,102,40,66,44,67,41,44,97,114,103,40,49,44,65,44,68,41]⟩,
 ⟨#[109,101,109,40,65,44,91,49,44,50,93,41,44,109,101,109,40,66,44,91,65,44,51,93,41]⟩,
 ⟨#[65,32,105,115,32,51,47,47,48]⟩,
 ⟨#[116,114,117,101]⟩,
 ⟨#[109,101,109,40,65,44,66,41]⟩,
 ⟨#[112,40,65,41,44,65,92,61,50]⟩]
def EU:List (List ByteArray):=[[⟨#[97,112,112,40,65,44,66,44,91,49,44,50,93,41]⟩,⟨#[97,112,112,40,91,49,93,44,91,50,124,65,93,44,66,41]⟩,⟨#[97,112,112,40,65,44,91,49,93,44,65,41]⟩],
 [⟨#[109,101,109,40,65,44,91,97,44,98,44,99,93,41]⟩,⟨#[109,101,109,40,65,44,91,49,44,50,93,41,44,109,101,109,40,66,44,91,65,44,51,93,41]⟩,⟨#[109,101,109,40,65,44,66,41]⟩],
 [⟨#[113,40,65,41]⟩,⟨#[114,40,65,44,66,41,44,65,62,66]⟩,⟨#[112,40,65,41,44,33,44,112,40,66,41]⟩,⟨#[114,40,65,44,65,41]⟩],
 [⟨#[108,101,110,40,91,97,44,98,44,99,93,44,65,41]⟩,⟨#[108,101,110,40,65,44,50,41]⟩],
 [⟨#[109,97,120,40,51,44,50,44,65,41]⟩,⟨#[109,97,120,40,65,44,50,44,51,41]⟩,⟨#[109,97,120,40,49,44,50,44,65,41]⟩],
 [⟨#[116,40,97,44,65,41]⟩,⟨#[116,40,65,44,100,41]⟩,⟨#[101,40,65,44,66,41]⟩],
 [⟨#[108,111,111,112]⟩,⟨#[111,107,44,33]⟩,⟨#[111,107,44,108,111,111,112]⟩],
 [⟨#[102,97,99,40,52,44,65,41]⟩,⟨#[102,97,99,40,48,44,65,41]⟩,⟨#[102,97,99,40,55,44,65,41]⟩],
 [⟨#[115,40,65,41]⟩,⟨#[115,40,66,41,44,66,61,102,40,49,41]⟩],
 [⟨#[114,101,118,40,91,49,44,50,44,51,93,44,91,93,44,65,41]⟩,⟨#[114,101,118,40,65,44,91,93,44,91,49,93,41]⟩],
 [⟨#[98,97,100,40,65,41]⟩,⟨#[98,105,103,40,65,41]⟩,⟨#[117,110,40,65,41]⟩]]
def SC(s:ByteArray):Bool:=decide (s.size≤200)&&match yK (sb s) with | some l=>decide (2≤l.length)&&decide (l.length≤20) | none=>false
theorem a7C:IQ.all SC=true:=by decide +kernel
theorem a7D:IQ.all (fun s=>match yK (sb s) with | some l=>qY l | none=>false)=true:=by decide +kernel
theorem a7A:EU.all (fun l=>decide (1≤l.length)&&l.all (fun s=>decide (s.size≤1000)))=true:=by decide +kernel
theorem a7B(y:List ByteArray)(h:y∈EU):y.length≤4:=by
 have h2:(EU.all fun l=>decide (l.length≤4))=true:=by decide +kernel
 simpa using dQ.1 h2 y h
end Go.AW
namespace Go.AW
open Go.Proofs.Tryz
def l8(p:List UInt8):AV:=.str (ba p)
theorem aMH(l:List (List UInt8)):∀e∈l.map l8,e.width=1:=by intro e h;simp only[cI] at h;obtain⟨t,_,rfl⟩:=h;rfl
theorem a35(l:List (List UInt8)):∀e∈l.map l8,e.cE=false:=by intro e h;simp only[cI] at h;obtain⟨t,_,rfl⟩:=h;rfl
abbrev H6:=zi aX (zi kU (zi cJ mA))
set_option maxHeartbeats 1000000 in
theorem aTN(s:ByteArray)(c:Nat)(hs:s.size≤1048576)(st:aB):aD prog 217 [.str s,.int .u8 (c:Int)] st (fun r st'=>r=.slice ((nT c (sb s) []).map l8)∧st'=st):=by
 generalize hT:nT c (sb s) []=T
 refine aD.oH (aD.fin ?_)
 refine wF [1000000] 2 func217 ntmps217 rfl rfl ?_
 intro _
 simp only[aA,seval,H6]
 refine iG (σ:=List (List UInt8)×Nat×Nat×Nat) [1000000] [0,1,4] (fun x=>((x.2.2.1≤s.size∧x.2.1≤x.2.2.1∧x.1++nT c ((sb s).drop x.2.2.1) (((sb s).drop x.2.1).take (x.2.2.1 - x.2.1))=T)∨(x.2.2.1=s.size+1∧x.2.1≤s.size+1∧x.1=T))∧x.1.length≤x.2.2.1∧(x.1.map l8≠[]→st x.2.2.2=none)) (fun x=>[(5,bE 1 x.2.2.2 (x.1.map l8)),(6,.int .i64 (x.2.1:Int)),(7,.int .i64 (x.2.2.1:Int))]) (fun x=>a7 st x.2.2.2 (x.1.map l8)) (fun x=>s.size+1 - x.2.2.1) (by decide +kernel) ⟨([],0,0,0),⟨Or.inl ⟨jH _,cZ _,hT⟩,jH _,by simp⟩,aN.mk (by simp only[aV,iK,aA,↓aR,seval])⟩ ?_
 rintro⟨out,f,i,b⟩ ⟨ht,hlen,hb⟩
 simp only at ht hlen hb ⊢
 by_cases hi:i≤s.size
 case neg=>
  obtain⟨h1,h2,rfl⟩:i=s.size+1∧f≤s.size+1∧out=T:=by
   rcases ht with h | h
   · exact absurd h.1 hi
   · exact h
  have hi':((i:Int)≤(s.size:Int))=False:=bU (by omega)
  simp only[hi',bP,aA,seval,H6]
  exact⟨b,_,st,rfl,hb,a35 _,⟨1,aMH _⟩,by rw[iJ],aL.refl _⟩
 obtain⟨-,hfi,ht⟩:i≤s.size∧f≤i∧out++nT c ((sb s).drop i) (((sb s).drop f).take (i - f))=T:=by
  rcases ht with h | h
  · exact h
  · omega
 have hi':((i:Int)≤(s.size:Int))=True:=cK (by omega)
 have hw:=bL (n:=(i:Int)+1)
 have hsl:=fun(φ:AF) (y z:Operand) (h:φ.eval y=.int .i64 (f:Int)) (h':φ.eval z=.int .i64 (i:Int))=>HP (s:=s) h h' hfi hi
 rw[FV] at hsl
 generalize hp:((sb s).drop f).take (i - f)=p at *
 have x9:∀(K:AV→aB→Prop),(∀b',((out++ [p]).map l8≠[]→st b'=none)→K (bE 1 b' ((out++ [p]).map l8)) (a7 st b' ((out++ [p]).map l8)))→kD prog 148 (a7 st b (out.map l8)) (bE 1 b (out.map l8)) (.fslice [.str (ba p)]) K:=by
  intro K hK
  refine eD qC KH KL rfl rfl (eO rfl rfl) (aMH _) hb (by simp only[aE,aS,aW];omega) (by simp only[aE,aS,aW];omega) (fun b' hb'=>?_)
  rw[show out.map l8++ [AV.str (ba p)]=(out++ [p]).map l8 by simp [l8]] at hb' ⊢
  exact hK b' hb'
 by_cases hie:i=s.size
 case pos=>
  have LC:((i:Int)=(s.size:Int))=True:=cK (by omega)
  rw[B2 (by rw[cQ];omega)] at ht
  simp only[nT] at ht
  simp only[hi',LC,hsl,bF,aA,seval,H6]
  refine x9 _ fun b' hb'=>?_
  simp only[hw,aA,seval]
  refine⟨(out++ [p],i+1,i+1,b'),by simp only;omega,⟨Or.inr ⟨by simp only;omega,by simp only;omega,ht⟩,by simp only[dM,aS,aW];omega,hb'⟩,aN.mk (by simp only[aA,seval]<;>exact⟨rfl,rfl⟩)⟩
 have LC:((i:Int)=(s.size:Int))=False:=bU (by omega)
 obtain⟨x,hx⟩:=uD (s:=s) (n:=i) (by omega)
 have hix:=rZ (P:=prog) (t:=9) rB hx
 obtain⟨hx1,hx2⟩:=gS.1 hx
 rw[rF hx1,hx2] at ht
 unfold nT at ht
 by_cases hxc:x.toNat=c
 · rw[aJ hxc] at ht
   have RB:((x.toNat:Int)=(c:Int))=True:=cK (by omega)
   simp only[hi',LC,hsl,hix,RB,bF,bP,aA,seval,H6]
   refine x9 _ fun b' hb'=>?_
   simp only[hw,aA,seval]
   refine⟨(out++ [p],i+1,i+1,b'),by simp only;omega,⟨Or.inl ⟨by simp only;omega,cZ _,by rw[←ht];simp⟩,by simp only[dM,aS,aW];omega,hb'⟩,aN.mk (by simp only[aA,seval]<;>exact⟨rfl,rfl⟩)⟩
 · rw[aF hxc] at ht
   have RB:((x.toNat:Int)=(c:Int))=False:=bU (by omega)
   have hp':((sb s).drop f).take (i+1 - f)=p++ [x]:=by
    rw[show i+1 - f=(i - f)+1 by omega,eA,hp,NR,show f+(i - f)=i by omega,hx];try rfl
   simp only[hi',LC,hw,hix,RB,bF,bP,aA,seval,H6]
   refine⟨(out,f,i+1,b),by simp only;omega,⟨Or.inl ⟨by simp only;omega,by simp only;omega,by simp only;rw[hp'];exact ht⟩,by simp only;omega,hb⟩,aN.mk (by simp only[aA,seval]<;>rfl)⟩
def FD(o:Option (List Cl))(r:AV):Prop:=match o with | some l=>r=.tup [.slice (l.map bX),.bool true] | none=>r=.tup [.slice [],.bool false]
theorem YY:∀(ls:List (List UInt8)) (acc r:List Cl),(∀c∈acc,uE c∧lT c=true)→AX ls acc=some r→(∀c∈r,uE c∧lT c=true)∧r.length=acc.length+ls.length
 | [],acc,r,h,h1=>by cases h1;exact⟨h,rfl⟩
 | l::ls,acc,r,h,h1=>by
  unfold AX at h1
  split at h1
  · cases h1
  rename_i c h2
  have:=YY ls (acc++ [c]) r (by intro x hx;rw[fQ,E8] at hx;rcases hx with hx | rfl;exact h x hx;exact aMG h2) h1
  refine⟨this.1,?_⟩
  rw[this.2]
  simp only[dM,aS,aW]
  omega
abbrev yW:=zi aX (zi bZ (zi kU (zi y6 (zi cJ (zi a61 (zi k9 (zi mA mB)))))))
set_option maxHeartbeats 1000000 in
theorem aSV(s:ByteArray)(hs:s.size≤100000)(st:aB):aD prog 130 [.str s] st (fun r st'=>FD (yK (sb s)) r∧st'=st):=by
 generalize hP:yK (sb s)=T
 unfold yK at hP
 simp only at hP
 have yA:=fun st=>aTN s 10 (by omega) st
 rw[show((10:Nat):Int)=10 from rfl] at yA
 have hne:=Y8 10 (sb s) []
 have hcl:=PD 10 (sb s) []
 rw[cQ] at hcl
 generalize nT 10 (sb s) []=L at *
 obtain⟨m,hm⟩:∃m,L.length=m+1:=⟨L.length - 1,by have:=NS.2 hne;omega⟩
 obtain⟨y,hy⟩:∃y,L[m]?=some y:=⟨_,eN (by omega)⟩
 have hgl:L.getLast?=some y:=by rw[U3,hm];exact hy
 rw[hgl] at hP
 refine aD.drop (Q:=FD T) (aD.fin ?_)
 have nY:T=none→∀(b:Nat) (l:List Cl) (s0:aB),(l.map bX≠[]→s0 b=none)→aL s0 st→∃b2 l2 s1,a7 s0 b (l.map bX)=a7 s1 b2 l2∧(l2≠[]→s1 b2=none)∧(∀e∈l2,e.cE=false)∧iI l2∧aL s1 st∧FD T ((AV.tup [.fslice [],.bool false]).fin b2 l2):=by
  rintro rfl b l s0 hb hD
  exact⟨b,_,s0,rfl,hb,KA _,⟨5,z8 _⟩,hD,by simp only[FD,jS,nV,nW,aZ,aV]⟩
 refine wF [1000000] 1 func130 ntmps130 rfl rfl ?_
 intro _
 simp only[aA,seval,yW]
 refine(yA _).to ?_
 have hat:=bD (av:=l8) qC hy rfl
 have hw0:=mW (x:=(L.length:Int) - 1) (m:=m) (by omega) (by omega)
 by_cases h21:21<L.length
 case pos=>
  rw[aJ (Or.inl h21)] at hP
  have K1:((21:Int)<(L.length:Int))=True:=cK (by omega)
  simp only[aE,K1,bF,aA,seval,yW]
  exact nY hP.symm 0 [] st (by simp) (aL.refl _)
 have K1:((21:Int)<(L.length:Int))=False:=bU (by omega)
 by_cases hye:y= []
 case neg=>
  rw[aJ (Or.inr (by simpa using hye))] at hP
  have RD:(ba y=⟨#[]⟩)=False:=bU fun h=>hye (by have:=fE sb h;exact this)
  simp only[aE,K1,hw0,hat,l8,RD,bP,aA,seval,yW]
  exact nY hP.symm 0 [] st (by simp) (aL.refl _)
 rw[aF (by rintro(h | h);exact h21 h;exact h (by rw[hye]))] at hP
 have RD:(ba y=⟨#[]⟩)=True:=cK (by rw[hye])
 simp only[aE,K1,hw0,hat,l8,RD,bF,bP,aA,seval,yW]
 refine iG (σ:=Nat×List Cl×Nat) [1000000] [5] (fun x=>x.1≤m∧AX (L.dropLast.drop x.1) x.2.1=T∧x.2.1.length=x.1∧(∀c∈x.2.1,uE c)∧(x.2.1.map bX≠[]→st x.2.2=none)) (fun x=>[(2,.fslice []),(3,.bool false),(4,bE 5 x.2.2 (x.2.1.map bX)),(6,.int .i64 (x.1:Int))]) (fun x=>a7 st x.2.2 (x.2.1.map bX)) (fun x=>m - x.1) (by decide +kernel) ⟨(0,[],0),⟨jH _,hP,rfl,by simp,by simp⟩,aN.mk (by simp only[aV,iK,aA,↓aR,seval])⟩ ?_
 rintro⟨i,acc,b⟩ ⟨hi,ht,hlen,hdn,hb⟩
 simp only at hi ht hlen hdn hb ⊢
 have hdl:L.dropLast.length=m:=by rw[List.length_dropLast,hm];try rfl
 have hw1:=bL (n:=(i:Int)+1)
 by_cases him:i<m
 case neg=>
  have QU:((i:Int)+1<(L.length:Int))=False:=bU (by omega)
  rw[B2 (by omega)] at ht
  simp only[AX] at ht
  simp only[aE,QU,hw1,nQ,iW,tQ,bP,aA,seval,yW]
  exact⟨b,_,st,rfl,hb,KA _,⟨5,z8 _⟩,aL.refl _,by rw[←ht];simp only[FD,jS,nV,kF,aZ,aV]⟩
 have QU:((i:Int)+1<(L.length:Int))=True:=cK (by omega)
 obtain⟨z,hz⟩:∃z,L[i]?=some z:=⟨_,eN (by omega)⟩
 have hz2:L.dropLast[i]?=some z:=by rw[List.getElem?_dropLast,aJ (by omega)];exact hz
 obtain⟨hz3,hz4⟩:=gS.1 hz2
 rw[rF hz3,hz4] at ht
 unfold AX at ht
 have aZ1:=bD (av:=l8) qC hz rfl
 have hpc:=aSU (ba z)
 rw[show sb (ba z)=z from rfl] at hpc
 simp only[aE,QU,hw1,aZ1,l8,bF,aA,seval,yW]
 refine(hpc _).to ?_
 cases hc:oQ z with
 | none=>
  rw[hc] at ht
  simp only[zE,gN,aA,↓aR,seval,yW]
  exact nY ht.symm b acc st hb (aL.refl _)
 | some c=>
  rw[hc] at ht
  simp only at ht
  have hcd:=(aMG hc).1
  have hca:=C4 c
  have hcw:=oG c
  have hcj:=J9 c
  have hcs:=YX c
  have hcc:=YW c
  simp only[zE,hca,hcw,hcj,hcs,aA,↓aR,seval,yW]
  refine eD qD KI KM rfl rfl (eO hcw hcs) (z8 _) hb (by simp only[aE,aS,aW];omega) (by simp only[aE,aS,aW];omega) (fun b' hb'=>?_)
  rw[show acc.map bX++ [bX c]=(acc++ [c]).map bX by simp] at hb' ⊢
  simp only[hw1,aA,seval]
  refine⟨(i+1,acc++ [c],b'),by simp only;omega,⟨by simp only;omega,ht,by simp only[dM,aS,aW];omega,?_,hb'⟩,aN.mk (by simp only[aA,seval]<;>rfl)⟩
  intro x hx
  rw[fQ,E8] at hx
  rcases hx with hx | rfl
  · exact hdn x hx
  · exact hcd
def FE(o:Option (List Tm)):AV:=match o with | some l=>.tup [.slice (l.map Tm.av),.bool true] | none=>.tup [.slice [],.bool false]
theorem a33{l:List UInt8}{q:List Tm}(h:nC l=some q):gX q=true∧∀t∈q,Dn t:=by
 unfold nC at h
 split at h
 · cases h
 rename_i g e h1
 split at h
 · rename_i h2
   cases h
   exact⟨h2.2.2,(KZ h2.1 7 0 [] _ _ (jH _) (by simp) h1).2.2.1⟩
 · cases h
abbrev uY:=zi aX (zi bZ (zi cJ (zi bS bQ)))
set_option maxHeartbeats 1000000 in
theorem W6(s:ByteArray)(st:aB):aD prog 132 [.str s] st (fun r st'=>r=FE (nC (sb s))∧st'=st):=by
 refine aD.oH (aD.fin ?_)
 have nY:nC (sb s)=none→∃b l s0,st=a7 s0 b l∧(l≠[]→s0 b=none)∧(∀e∈l,e.cE=false)∧iI l∧(AV.tup [.fslice [],.bool false]).fin b l=FE (nC (sb s))∧aL s0 st:=fun h=>by
  rw[h]
  exact⟨0,[],st,rfl,by simp,by simp,⟨4,by simp⟩,by simp only[FE,jS,nV,nW,aZ,aV],aL.refl _⟩
 refine wF [1000000] 1 func132 ntmps132 rfl rfl ?_
 intro _
 by_cases hs:s.size≤1000
 case neg=>
  have hs':((1000:Int)<(s.size:Int))=True:=cK (by omega)
  have hP:nC (sb s)=none:=by
   unfold nC
   split
   · rfl
   · rw[aF fun h=>hs (by rw[←cQ];exact h.1)]
  simp only[hs',bF,aA,seval,uY]
  exact nY hP
 have hs':((1000:Int)<(s.size:Int))=False:=bU (by omega)
 have h0:=fun st=>X1 hs 0 (jH _) st
 rw[show((0:Nat):Int)=0 from rfl] at h0
 simp only[hs',bP,aA,seval,uY]
 refine(h0 _).mono ?_
 rintro r st ⟨hr,rfl⟩
 cases hG:sZ (sb s) 7 0 [] with
 | none=>
  have hP:nC (sb s)=none:=by unfold nC;rw[hG]
  rw[hG] at hr
  simp only[sI] at hr
  subst hr
  have he:((-1:Int)=(s.size:Int))=False:=bU (by omega)
  simp only[he,bP,aA,seval,uY]
  exact nY hP
 | some p=>
  obtain⟨g,e⟩:=p
  rw[hG] at hr
  simp only[sI] at hr
  subst hr
  have hg:=KZ (by rw[cQ];exact hs) 7 0 [] _ _ (jH _) (by simp) hG
  rw[cQ] at hg
  simp only[aA,seval,uY]
  by_cases he:e=s.size
  case neg=>
   have hP:nC (sb s)=none:=by
    unfold nC
    rw[hG]
    simp only
    rw[aF fun h=>he (by rw[←cQ];exact h.2.1)]
   have he':((e:Int)=(s.size:Int))=False:=bU (by omega)
   simp only[he',bP,aA,seval,uY]
   exact nY hP
  have he':((e:Int)=(s.size:Int))=True:=cK (by omega)
  simp only[he',bF,aA,seval]
  refine(F4 g _).to ?_
  cases hq:gX g with
  | false=>
   have hP:nC (sb s)=none:=by
    unfold nC
    rw[hG]
    simp only
    rw[aF fun h=>by rw[hq] at h;exact absurd h.2.2 (by decide)]
   simp only[aA,seval,uY]
   exact nY hP
  | true=>
   have hP:nC (sb s)=some g:=by
    unfold nC
    rw[hG]
    simp only
    rw[aJ ⟨by rw[cQ];exact hs,by rw[cQ];exact he,hq⟩]
   have hg6:g.length≤6:=by
    simp only[gX,cB,bO] at hq
    exact hq.1
   simp only[aA,seval,uY]
   refine dV (σ:=Nat) [1000000] [2,3,4] g (fun i b=>((g.take i).map Tm.av≠[]→st b=none)) (fun i b=>[(6,bE 4 b ((g.take i).map Tm.av)),(7,.int .i64 i)]) (fun i b=>a7 st b ((g.take i).map Tm.av)) (by decide +kernel) ⟨0,fun h=>absurd rfl h,aN.mk (by simp only[iK,aA,↓aR,seval])⟩ (fun i x b hx hlt bH hdr hinv=>?_) (fun b hge hinv=>?_)
   case refine_1=>
    have hw:=bL (n:=(i:Int)+1)
    have cF:((g.take i).map Tm.av).length=i:=by simp only[aE,dC];omega
    have htk:(g.take i).map Tm.av++ [x.av]=(g.take (i+1)).map Tm.av:=by rw[eA,hx];simp
    have hat:=bD (av:=Tm.av) a8 hx (aH x)
    simp only[bH,aE,hat,aT,aH,aA,seval,uY]
    refine(xT x _ (hg.2.2.1 x (cD hx)).2).to ?_
    simp only[aT,aH,cC,aA,seval,uY]
    refine eD a8 fW fX rfl rfl (eO (aH _) (bT _)) (dS _) hinv (by simp only[cF,aS,aW];omega) (by simp only[cF,aS,aW];omega) (fun b' hb'=>?_)
    rw[htk] at hb' ⊢
    simp only[hw,aA,seval]
    exact⟨b',hb',aN.mk (by simp only[aA,seval])⟩
   rw[dW] at hinv ⊢
   simp only[aE,hge,nQ,iW,tQ,aA,seval,uY]
   rw[hP]
   exact⟨b,_,st,rfl,hinv,iM _,⟨4,dS _⟩,by simp only[FE,jS,nV,kF,aZ,aV],aL.refl _⟩
end Go.AW
namespace Go.AW

theorem rL.fin{s0:aB}{b:Nat}{l:List AV}{r:AV}(h0:l≠[]→s0 b=none)(h2:∀e∈l,e.cE=false)(h3:iI l):zP (a7 s0 b l) s0∧rL (a7 s0 b l) r s0 (r.fin b l):=by
 cases l with
 | nil=>exact⟨(aL.refl _).tU,fun h v S y=>y.soft⟩
 | cons e l=>
  have hb:=h0 (by simp)
  have h1:a7 s0 b (e::l) b=some (.cells ((e::l).flatMap AV.cells)):=by simp only[a7,aB.aO]
  have e1:(a7 s0 b (e::l)).erase b=s0:=by simp only[a7];exact aB.vX _ _ _ hb
  refine⟨?_,fun h v S y=>?_⟩
  · have:=(jK (a7 s0 b (e::l)) b).tU
    rwa [e1] at this
  · have:=y.fz S h1 h2 h3
    rw[e1] at this
    exact this.soft
theorem rL.tail{s0:aB}{b k w:Nat}{l:List AV}(hb:s0 b=none)(hk:k<l.length)(h2:∀e∈l,e.cE=false)(hw:∀e∈l,e.width=w):zP (a7 s0 b l) s0∧rL (a7 s0 b l) (.mslice b (k*w) (l.length - k) w) s0 (.slice (l.drop k)):=by
 have hl:l≠[]:=by rintro rfl;simp at hk
 have h1:a7 s0 b l b=some (.cells (l.flatMap AV.cells)):=by rw[jR hl,aB.aO]
 have e1:(a7 s0 b l).erase b=s0:=by rw[jR hl];exact aB.vX _ _ _ hb
 refine⟨?_,fun h v S y=>?_⟩
 · have:=(jK (a7 s0 b l) b).tU
   rwa [e1] at this
 · obtain⟨f1,f2⟩:=frozen S h1 h2
   rw[e1] at f2
   obtain⟨cap,hv,l1,l2,_⟩:=y.AY
   have hE:=dH.drop k hw f2
   rw[fZ] at hE
   subst hv
   refine⟨rfl,?_⟩
   unfold VC
   exact .inr ⟨b,k*w,cap,by rw[mZ];try rfl,by rw[mZ];exact l1,l2,hb,f1,⟨w,fun e he=>hw e (List.mem_of_mem_drop he)⟩,hE⟩
theorem aD.aJM{P:Program}{g:FuncId}{args:List AV}{st:aB}{Q:AV→aB→Prop}(x:aD P g args st (fun r st'=>∃r2 s2,(zP st' s2∧rL st' r s2 r2)∧Q r2 s2)):aD P g args st Q:=
 x.mV fun r st' ⟨r2,s2,⟨h1,h2⟩,h3⟩=>⟨r2,s2,h1,h2,h3⟩
end Go.AW
namespace Go.AW
open Go.Proofs.Tryz
theorem a5N{P:Program}{t:TypeId}{ag:Bool}{w b n:Nat}(hI:eI P t=some (ag,w))(h1:1<n)(φ:AF):gZ P φ t (.mslice b 0 n w) (some (.const (.int .i64 1))) none none=some (.mslice b (0+1*w) (n - 1) w):=by
 have h2:dY φ none n n=some n:=rfl
 have h3:dY φ (some (.const (.int .i64 1))) 0 n=some 1:=by
  show(if((0:Nat):Int)≤1∧(1:Int)≤(n:Int) then some (Int.toNat 1) else none)=some 1
  rw[aJ ⟨by omega,by omega⟩]
  try rfl
 unfold gZ oF
 rw[aF (by simp [qP])]
 simp only[hI,h2,h3]
 rw[aJ trivial,aF (by decide),aJ h1]
def zG:Cl:=(.mk 3 0 ⟨#[122]⟩ [],[])
abbrev H8:=zi aX (zi cJ (zi k9 (zi bS (zi oW mB))))
set_option maxHeartbeats 2000000 in
theorem aUH(bs:List Bt)(c p:Nat)(l:List Cl)(hl:∀x∈l,uE x)(h1:2≤l.length)(h2:l.length≤40)(st:aB)(hp:p+1000000≤1099511627776)(hR:dG st c bs p) :
 aD prog 77 [.ptr c 0,.slice (l.map bX)] st (Dr bs c p 1000000 st (fun r=>∃l':List Cl,r=.slice (l'.map bX))):=by
 refine aD.aJM ?_
 have DN:st.aC c (cA bs p)=st:=UM hR
 have iR:∀(q b:Nat) (acc:List Cl),p≤q→q≤p+1000000→(acc.map bX≠[]→(st.aC c (cA bs q)) b=none)→∃r2 s2,(zP (a7 (st.aC c (cA bs q)) b (acc.map bX)) s2∧rL (a7 (st.aC c (cA bs q)) b (acc.map bX)) (bE 5 b (acc.map bX)) s2 r2)∧Dr bs c p 1000000 st (fun r=>∃l':List Cl,r=.slice (l'.map bX)) r2 s2:=fun q b acc g1 g2 hb=>by
  have:=rL.fin (r:=bE 5 b (acc.map bX)) hb (KA _) ⟨5,z8 _⟩
  rw[iJ] at this
  exact⟨_,_,this,q,g1,g2,rfl,acc,rfl⟩
 have hRq:∀(q b:Nat) (L:List AV),(L≠[]→(st.aC c (cA bs q)) b=none)→dG (a7 (st.aC c (cA bs q)) b L) c bs q∧∀o,(a7 (st.aC c (cA bs q)) b L).aC c o=a7 (st.aC c o) b L∧(L≠[]→(st.aC c o) b=none):=fun q b L hb=>by
  have hne:L≠[]→c≠b:=fun h e=>by have:=hb h;rw[←e,aB.aO] at this;cases this
  refine⟨?_,fun o=>⟨?_,fun h=>?_⟩⟩
  · unfold dG
    by_cases h:L= []
    · rw[h,xR,aB.aO];try rfl
    · rw[o7 (hne h),aB.aO];try rfl
  · rw[o9 hne,cY]
  · have:=hb h
    rw[aB.aM _ _ (c7 (hne h))] at this ⊢
    exact this
 refine wF [1000000] 2 func77 ntmps77 rfl rfl ?_
 simp only[d7,AV.fits,d9,aE]
 intro _
 simp only[aA,seval,H8]
 refine dV (σ:=Nat×Nat×List Cl) [1000000] [0,1,4] l (fun i x=>p≤x.1∧x.1≤p+6000*i∧x.2.2.length=i∧(x.2.2.map bX≠[]→(st.aC c (cA bs x.1)) x.2.1=none)) (fun i x=>[(5,bE 5 x.2.1 (x.2.2.map bX)),(6,.int .i64 i)]) (fun i x=>a7 (st.aC c (cA bs x.1)) x.2.1 (x.2.2.map bX)) (by decide +kernel) ⟨(p,0,[]),⟨cZ _,by simp only;omega,rfl,fun h=>absurd rfl h⟩,by
  simp only[aV,xR,DN]
  exact aN.mk (by simp only[iK,aA,↓aR,seval])⟩ (fun i x s hx hlt bH hdr hinv=>?_) (fun s hge hinv=>?_)
 case refine_1=>
  obtain⟨q,b,acc⟩:=s
  obtain⟨g1,g2,g3,g4⟩:=hinv
  simp only at g1 g2 g3 g4
  have hw:=bL (n:=(i:Int)+1)
  have hat:=bD (av:=bX) qD hx (oG x)
  have hcw:=oG x
  have hca:=C4 x
  obtain⟨k1,k2⟩:=hRq _ _ _ g4
  simp only[bH,aE,hat,hcw,hca,aA,seval,H8]
  refine(aUG bs c q x (hl x (cD hx)) _ (by omega) k1).mono ?_
  rintro _ _ ⟨q2,r1,r2,rfl,y,rfl⟩
  obtain⟨k3,k4⟩:=k2 (cA bs q2)
  rw[k3]
  have hya:=C4 y
  have hyw:=oG y
  have hyj:=J9 y
  have hys:=YX y
  have hyc:=YW y
  simp only[hya,hyw,hyj,aA,seval,H8]
  refine eD qD KI KM rfl rfl (eO hyw hys) (z8 _) k4 (by simp only[aE,aS,aW];omega) (by simp only[aE,aS,aW];omega) (fun b' hb'=>?_)
  rw[show acc.map bX++ [bX y]=(acc++ [y]).map bX by simp] at hb' ⊢
  simp only[hw,aA,seval]
  exact⟨(q2,b',acc++ [y]),⟨by simp only;omega,by simp only;omega,by simp only[dM,aS,aW];omega,hb'⟩,aN.mk (by simp only[aA,seval])⟩
 obtain⟨q,b,acc⟩:=s
 obtain⟨g1,g2,g3,g4⟩:=hinv
 simp only at g1 g2 g3 g4
 obtain⟨k1,k2⟩:=hRq _ _ _ g4
 simp only[aE,hge,aA,seval,H8]
 refine(mJ bs c q (by omega) 30 (by omega) (by omega) _ k1).mono ?_
 rintro _ _ ⟨j,hj,rfl,rfl⟩
 obtain⟨k3,k4⟩:=k2 (cA bs (q+1))
 rw[k3]
 have Q6:prog.underlying 33=some (.slice 177):=by kernel_rfl
 simp only[aA,seval]
 refine aP (fun h0=>?_) (fun h0=>?_)
 · simp only[aA,seval]
   refine iG (σ:=Nat×List Cl) [1000000] [4,24] (fun x=>(x.2.map bX≠[]→(st.aC c (cA bs (q+1))) x.1=none)∧x.2.length≤41) (fun x=>[(5,bE 5 x.1 (x.2.map bX))]) (fun x=>a7 (st.aC c (cA bs (q+1))) x.1 (x.2.map bX)) (fun x=>41 - x.2.length) (by decide +kernel) ⟨(b,acc),⟨k4,by simp only;omega⟩,aN.mk (by simp only[aA,seval])⟩ ?_
   rintro⟨b,acc⟩ ⟨i1,i2⟩
   simp only at i1 i2
   have haL:=t7 (w:=5) (b:=b) (l:=acc.map bX) Q6
   rw[aE] at haL
   simp only[haL,aA,seval]
   refine aP (fun h1=>?_) (fun h1=>?_)
   case refine_2=>
    simp only[aA,seval]
    exact iR _ _ _ (by omega) (by omega) i1
   simp only[bO] at h1
   simp only[aA,seval]
   refine(sS ⟨#[122]⟩ [] (by simp) _).to ?_
   simp only[aU,aV,aA,seval,H8]
   refine eD (xs:=[.agg [.int .i64 3,.int .i64 0,.str ⟨#[122]⟩,.slice [],.fslice []]]) qD KI KM rfl rfl (eO rfl rfl) (z8 _) i1 (by simp only[aE,aS,aW];omega) (by simp only[aE,aS,aW];omega) (fun b' hb'=>?_)
   have hb2:(acc++ [zG]).map bX≠[]→(st.aC c (cA bs (q+1))) b'=none:=fun _=>hb' (by simp)
   have g8:a7 (st.aC c (cA bs (q+1))) b' (acc.map bX++ [.agg [.int .i64 3,.int .i64 0,.str ⟨#[122]⟩,.slice [],.fslice []]]) b'=some (.cells (((acc.map bX).flatMap AV.cells++ [.int .i64 3,.int .i64 0,.str ⟨#[122]⟩,.slice []])++ .fslice []:: [])):=by
    rw[jR (by simp),aB.aO]
    simp [AV.cells]
   have aK1:=fun φ=>fV.a5P (φ:=φ) g8
   have a1M:(a7 (st.aC c (cA bs (q+1))) b' (acc.map bX++ [.agg [.int .i64 3,.int .i64 0,.str ⟨#[122]⟩,.slice [],.fslice []]])).aC b' (.cells (((acc.map bX).flatMap AV.cells++ [.int .i64 3,.int .i64 0,.str ⟨#[122]⟩,.slice []])++(AV.fslice []).soft:: []))=a7 (st.aC c (cA bs (q+1))) b' ((acc++ [zG]).map bX):=by
    rw[jR (by simp),cY,jR (by simp)]
    congr 2
    simp [AV.cells,AV.soft,zG,gN]
   rw[a1M] at aK1
   have hV:bE 5 b' (acc.map bX++ [.agg [.int .i64 3,.int .i64 0,.str ⟨#[122]⟩,.slice [],.fslice []]])=bE 5 b' ((acc++ [zG]).map bX):=by
    rw[pA (by simp),pA (by simp)]
    simp
   rw[hV]
   simp only[aA,seval]
   refine⟨(b',acc++ [zG]),by simp only[dM,aS,aW];omega,⟨hb2,by simp only[dM,aS,aW];omega⟩,(aK1 _).trans (aN.mk (by simp only[aA,seval]))⟩
 simp only[aA,seval]
 refine aP (fun h1=>?_) (fun h1=>?_)
 · have hne:acc.map bX≠[]:=fun h=>by have:=fE List.length h;simp at this;subst this;simp at g3;omega
   have hlen:(acc.map bX).length=acc.length:=aE _
   have hsl:=a5N (P:=prog) (b:=b) qD (show 1<acc.length by omega)
   have hb0:=k4 hne
   simp only[pA hne,hlen,hsl,aA,seval]
   have hT:=rL.tail (k:=1) (w:=5) hb0 (by rw[hlen];omega) (KA acc) (z8 acc)
   rw[hlen] at hT
   simp only[Nat.one_mul] at hT ⊢
   exact⟨_,_,hT,q+1,by omega,by omega,rfl,acc.drop 1,by rw[E6]⟩
 · skip
   simp only[aA,seval]
   exact iR _ _ _ (by omega) (by omega) k4
abbrev H7:=zi aX (zi cJ (zi bS (zi bQ oW)))
set_option maxHeartbeats 2000000 in
theorem J3(bs:List Bt)(c p:Nat)(l:List Tm)(hl:∀x∈l,Dn x)(h2:l.length≤40)(st:aB)(hp:p+1000000≤1099511627776)(hR:dG st c bs p) :
 aD prog 61 [.ptr c 0,.slice (l.map Tm.av)] st (Dr bs c p 1000000 st (fun r=>∃l':List Tm,l'.length≤41∧r=.slice (l'.map Tm.av))):=by
 refine aD.aJM ?_
 have DN:st.aC c (cA bs p)=st:=UM hR
 have iR:∀(q b:Nat) (acc:List Tm),acc.length≤41→p≤q→q≤p+1000000→(acc.map Tm.av≠[]→(st.aC c (cA bs q)) b=none)→∃r2 s2,(zP (a7 (st.aC c (cA bs q)) b (acc.map Tm.av)) s2∧rL (a7 (st.aC c (cA bs q)) b (acc.map Tm.av)) (bE 4 b (acc.map Tm.av)) s2 r2)∧Dr bs c p 1000000 st (fun r=>∃l':List Tm,l'.length≤41∧r=.slice (l'.map Tm.av)) r2 s2:=fun q b acc g0 g1 g2 hb=>by
  have:=rL.fin (r:=bE 4 b (acc.map Tm.av)) hb (iM _) ⟨4,dS _⟩
  rw[iJ] at this
  exact⟨_,_,this,q,g1,g2,rfl,acc,g0,rfl⟩
 have hRq:∀(q b:Nat) (L:List AV),(L≠[]→(st.aC c (cA bs q)) b=none)→dG (a7 (st.aC c (cA bs q)) b L) c bs q∧∀o,(a7 (st.aC c (cA bs q)) b L).aC c o=a7 (st.aC c o) b L∧(L≠[]→(st.aC c o) b=none):=fun q b L hb=>by
  have hne:L≠[]→c≠b:=fun h e=>by have:=hb h;rw[←e,aB.aO] at this;cases this
  refine⟨?_,fun o=>⟨?_,fun h=>?_⟩⟩
  · unfold dG
    by_cases h:L= []
    · rw[h,xR,aB.aO];try rfl
    · rw[o7 (hne h),aB.aO];try rfl
  · rw[o9 hne,cY]
  · have:=hb h
    rw[aB.aM _ _ (c7 (hne h))] at this ⊢
    exact this
 refine wF [1000000] 2 func61 ntmps61 rfl rfl ?_
 simp only[d7,AV.fits,d9,aE]
 intro _
 simp only[aA,seval,H7]
 refine dV (σ:=Nat×Nat×List Tm) [1000000] [0,1,4] l (fun i x=>p≤x.1∧x.1≤p+10*i∧x.2.2.length=i∧(x.2.2.map Tm.av≠[]→(st.aC c (cA bs x.1)) x.2.1=none)) (fun i x=>[(5,bE 4 x.2.1 (x.2.2.map Tm.av)),(6,.int .i64 i)]) (fun i x=>a7 (st.aC c (cA bs x.1)) x.2.1 (x.2.2.map Tm.av)) (by decide +kernel) ⟨(p,0,[]),⟨cZ _,by simp only;omega,rfl,fun h=>absurd rfl h⟩,by
  simp only[aV,xR,DN]
  exact aN.mk (by simp only[iK,aA,↓aR,seval])⟩ (fun i x s hx hlt bH hdr hinv=>?_) (fun s hge hinv=>?_)
 case refine_1=>
  obtain⟨q,b,acc⟩:=s
  obtain⟨g1,g2,g3,g4⟩:=hinv
  simp only at g1 g2 g3 g4
  have hw:=bL (n:=(i:Int)+1)
  have hat:=bD (av:=Tm.av) a8 hx (aH x)
  obtain⟨k1,k2⟩:=hRq _ _ _ g4
  simp only[bH,aE,hat,aH,aT,aA,seval,H7]
  refine(OW bs c q x (hl x (cD hx)).2 _ (by omega) k1).mono ?_
  rintro _ _ ⟨q2,r1,r2,rfl,y,rfl⟩
  obtain⟨k3,k4⟩:=k2 (cA bs q2)
  rw[k3]
  simp only[aH,aT,cC,aA,seval,H7]
  refine eD a8 fW fX rfl rfl (eO (aH _) (bT _)) (dS _) k4 (by simp only[aE,aS,aW];omega) (by simp only[aE,aS,aW];omega) (fun b' hb'=>?_)
  rw[show acc.map Tm.av++ [y.av]=(acc++ [y]).map Tm.av by simp] at hb' ⊢
  simp only[hw,aA,seval]
  exact⟨(q2,b',acc++ [y]),⟨by simp only;omega,by simp only;omega,by simp only[dM,aS,aW];omega,hb'⟩,aN.mk (by simp only[aA,seval])⟩
 obtain⟨q,b,acc⟩:=s
 obtain⟨g1,g2,g3,g4⟩:=hinv
 simp only at g1 g2 g3 g4
 obtain⟨k1,k2⟩:=hRq _ _ _ g4
 simp only[aE,hge,aA,seval,H7]
 refine(mJ bs c q (by omega) 30 (by omega) (by omega) _ k1).mono ?_
 rintro _ _ ⟨j,hj,rfl,rfl⟩
 obtain⟨k3,k4⟩:=k2 (cA bs (q+1))
 rw[k3]
 have Q6:prog.underlying 34=some (.slice 47):=by kernel_rfl
 simp only[aA,seval]
 refine aP (fun h0=>?_) (fun h0=>?_)
 · simp only[aA,seval]
   refine iG (σ:=Nat×List Tm) [1000000] [4] (fun x=>(x.2.map Tm.av≠[]→(st.aC c (cA bs (q+1))) x.1=none)∧x.2.length≤41) (fun x=>[(5,bE 4 x.1 (x.2.map Tm.av))]) (fun x=>a7 (st.aC c (cA bs (q+1))) x.1 (x.2.map Tm.av)) (fun x=>41 - x.2.length) (by decide +kernel) ⟨(b,acc),⟨k4,by simp only;omega⟩,aN.mk (by simp only[aA,seval])⟩ ?_
   rintro⟨b,acc⟩ ⟨i1,i2⟩
   simp only at i1 i2
   have haL:=t7 (w:=4) (b:=b) (l:=acc.map Tm.av) Q6
   rw[aE] at haL
   simp only[haL,aA,seval]
   refine aP (fun h1=>?_) (fun h1=>?_)
   case refine_2=>
    simp only[aA,seval]
    exact iR _ _ _ i2 (by omega) (by omega) i1
   simp only[bO] at h1
   simp only[aA,seval]
   refine(sS ⟨#[116,114,117,101]⟩ [] (by simp) _).to ?_
   simp only[aT,aH,cC,aA,seval,H7]
   refine eD a8 fW fX rfl rfl (eO (aH _) (bT _)) (dS _) i1 (by simp only[aE,aS,aW];omega) (by simp only[aE,aS,aW];omega) (fun b' hb'=>?_)
   rw[show acc.map Tm.av++ [(Tm.mk 3 0 ⟨#[116,114,117,101]⟩ []).av]=(acc++ [Tm.mk 3 0 ⟨#[116,114,117,101]⟩ []]).map Tm.av by simp] at hb' ⊢
   simp only[aA,seval]
   exact⟨(b',acc++ [Tm.mk 3 0 ⟨#[116,114,117,101]⟩ []]),by simp only[dM,aS,aW];omega,⟨hb',by simp only[dM,aS,aW];omega⟩,aN.mk (by simp only[aA,seval])⟩
 · skip
   simp only[aA,seval]
   exact iR _ _ _ (by omega) (by omega) (by omega) k4
abbrev a6Z:=zi aX (zi fA oW)
theorem aUV(bs:List Bt)(c p:Nat)(st:aB)(hp:p+10≤1099511627776)(hR:dG st c bs p):aD prog 76 [.ptr c 0] st (Dr bs c p 10 st (fun r=>∃n:Int,r=.int .i64 n)):=by
 refine wF [1000000] 1 func76 ntmps76 rfl rfl ?_
 intro _
 simp only[aA,seval,a6Z]
 refine(xU [20,3,1,5,0,21,-1] (by simp) (by simp) bs c p (by omega) _ hR).mono ?_
 rintro _ _ ⟨x,hx,rfl,rfl⟩
 simp only[aA,seval]
 exact⟨p+1,by omega,by omega,rfl,x,rfl⟩
abbrev a60:=zi aX (zi fA oW)
theorem aUU(bs:List Bt)(c p:Nat)(st:aB)(hp:p+10≤1099511627776)(hR:dG st c bs p):aD prog 78 [.ptr c 0] st (Dr bs c p 10 st (fun r=>∃n:Int,-1≤n∧n≤301∧r=.int .i64 n)):=by
 refine wF [1000000] 1 func78 ntmps78 rfl rfl ?_
 intro _
 simp only[aA,seval,a60]
 refine(xU [100,60,200,10,300,0,301,-1] (by simp) (by simp) bs c p (by omega) _ hR).mono ?_
 rintro _ _ ⟨x,hx,rfl,rfl⟩
 simp only[aA,seval]
 refine⟨p+1,by omega,by omega,rfl,x,?_,?_,rfl⟩<;>(simp only[c8,dP,dX] at hx;omega)
theorem aUJ(st:aB):aD prog 129 [] st (fun r st'=>r=.slice (IQ.map AV.str)∧st'=st):=by
 refine aD.done ?_
 refine wF [1000000] 0 func129 ntmps129 rfl rfl ?_
 intro _
 simp only[aA,seval,mA]
 exact⟨rfl,aL.refl _⟩
theorem aUX(st:aB):aD prog 219 [] st (fun r st'=>r=.slice (UJ.map AV.str)∧st'=st):=by
 refine aD.done ?_
 refine wF [1000000] 0 func219 ntmps219 rfl rfl ?_
 intro _
 simp only[aA,seval,mA]
 exact⟨rfl,aL.refl _⟩
theorem aB4{α:Type}{P:Program}{t:TypeId}{ag:Bool}{w:Nat}{av:α→AV}{l:List α}{i:Nat}{x:α}(hI:eI P t=some (ag,w))(h:l[i]?=some x)(hw:(av x).width=w):c9 P t (.fslice (l.map av)) (.int .i64 (i:Int))=some (.pptr (av x)):=by
 simp only[c9,hI,kX,mD,h,oZ,hw]
 simp
theorem aWV{P:Program}{φ:AF}{st:aB}{t u v w:Tmp}{K:AV→aB→Prop}:nE P [.tmp t,.tmp u,.tmp v,.tmp w] K φ st=(kW [φ t,φ u,φ v,φ w]=true∧K (.tup [φ t,φ u,φ v,φ w]) st):=rfl
def aJX(l:List ByteArray):AV:=.fslice (l.map AV.str)
abbrev L2 (q:List Tm):Prop:=q.length≤6∧∀t∈q,Dn t
theorem aMK(s:ByteArray):∃q:List Tm,(L2 q∧gX q=true)∧∃f,FE (nC (sb s))=.tup [.slice (q.map Tm.av),.bool f]:=by
 cases h:nC (sb s) with
 | none=>exact⟨[],⟨⟨by simp,by simp⟩,rfl⟩,false,rfl⟩
 | some q=>
  obtain⟨h1,h2⟩:=a33 h
  exact⟨q,⟨⟨(A9 h1).1,h2⟩,h1⟩,true,rfl⟩
theorem a38{s:ByteArray}(h:SC s=true):s.size≤200∧∃l:List Cl,yK (sb s)=some l∧2≤l.length∧l.length≤20∧∀c∈l,uE c:=by
 unfold SC at h
 rw[cB,bO] at h
 refine⟨h.1,?_⟩
 have h2:=h.2
 cases hp:yK (sb s) with
 | none=>rw[hp] at h2;simp at h2
 | some l=>
  rw[hp] at h2
  simp only[cB,bO] at h2
  refine⟨l,rfl,h2.1,h2.2,fun c hc=>?_⟩
  unfold yK at hp
  simp only at hp
  split at hp
  · cases hp
  · exact((YY _ [] l (by simp) hp).1 c hc).1
abbrev aOP:=zi aX (zi cJ (zi bS (zi oW mA)))
theorem aUY(bs:List Bt)(c p:Nat)(st:aB)(hp:p+10≤1099511627776)(hR:dG st c bs p):aD prog 131 [.ptr c 0] st (Dr bs c p 10 st (fun r=>∃q:List Tm,(L2 q∧gX q=true)∧r=.slice (q.map Tm.av))):=by
 refine wF [1000000] 1 func131 ntmps131 rfl rfl ?_
 intro _
 simp only[aA,seval]
 refine(aUX _).to ?_
 simp only[aE,aA,seval,aOP]
 refine(mJ bs c p (by omega) UJ.length (by decide) (by decide) _ hR).mono ?_
 rintro _ _ ⟨k,hk,rfl,rfl⟩
 obtain⟨x,hx⟩:∃x,UJ[k]?=some x:=⟨_,eN hk⟩
 have hat:=bD (av:=AV.str) qC hx rfl
 simp only[hat,aA,seval,aOP]
 refine(W6 x _).to ?_
 obtain⟨q,hq,f,hf⟩:=aMK x
 rw[hf]
 simp only[aA,seval]
 exact⟨p+1,by omega,by omega,rfl,q,hq,rfl⟩
abbrev H9:=zi aX (zi kU (zi cJ (zi k9 (zi bS (zi oW (zi mA a63))))))
set_option maxHeartbeats 1000000 in
theorem X7(bs:List Bt)(c p:Nat)(st:aB)(hp:p+100≤1099511627776)(hR:dG st c bs p) :
 aD prog 58 [.ptr c 0] st (Dr bs c p 100 st (fun r=>∃(l:List Cl) (q:List Tm),((2≤l.length∧l.length≤20∧∀x∈l,uE x)∧qY l=true)∧(L2 q∧gX q=true)∧r=.tup [.slice (l.map bX),.slice (q.map Tm.av)])):=by
 refine wF [1000000] 1 func58 ntmps58 rfl rfl ?_
 intro _
 simp only[aA,seval]
 refine(aUJ _).to ?_
 simp only[aE,aA,seval,H9]
 refine(mJ bs c p (by omega) IQ.length (by decide) (by decide) _ hR).mono ?_
 rintro _ _ ⟨k,hk,rfl,rfl⟩
 obtain⟨x,hx⟩:∃x,IQ[k]?=some x:=⟨_,eN hk⟩
 have hat:=bD (av:=AV.str) qC hx rfl
 have hk2:k<EU.length:=hk
 obtain⟨y,hy⟩:∃y,EU[k]?=some y:=⟨_,eN hk2⟩
 obtain⟨hxs,l,hl1,hl2,hl3,hl4⟩:=a38 (dQ.1 a7C x (cD hx))
 have hpv:=dQ.1 a7D x (cD hx)
 rw[hl1] at hpv
 have hyo:=dQ.1 a7A y (cD hy)
 simp only[cB,bO] at hyo
 have aJ9:=aB4 (P:=prog) (av:=aJX) ZH hy rfl
 simp only[EU,aJX,aZ,aV] at aJ9
 have hpp:=fun st=>aSV x (by omega) st
 rw[hl1] at hpp
 simp only[hat,aA,seval,H9]
 refine(hpp _).mono ?_
 rintro _ _ ⟨rfl,rfl⟩
 simp only[aJ9,aA,seval,H9]
 refine(mJ bs c (p+1) (by omega) 5 (by omega) (by omega) _ dG.new).mono ?_
 rintro _ _ ⟨j,hj,rfl,rfl⟩
 rw[cY]
 simp only[aA,seval]
 refine aP (fun h0=>?_) (fun h0=>?_)
 · simp only[aA,seval]
   refine(aUY bs c (p+1+1) _ (by omega) dG.new).mono ?_
   rintro _ _ ⟨p2,r1,r2,rfl,q,hq,rfl⟩
   rw[cY]
   simp only[aA,seval]
   exact⟨p2,by omega,by omega,rfl,l,q,⟨⟨hl2,hl3,hl4⟩,hpv⟩,hq,rfl⟩
 simp only[aE,aA,seval,H9]
 refine(mJ bs c (p+1+1) (by omega) y.length (by omega) (by have:=a7B y (cD hy);omega) _ dG.new).mono ?_
 rintro _ _ ⟨i,hi,rfl,rfl⟩
 rw[cY]
 obtain⟨z,hz⟩:∃z,y[i]?=some z:=⟨_,eN hi⟩
 have qJ:=aB4 (P:=prog) (av:=AV.str) qC hz rfl
 simp only[qJ,aA,seval,H9]
 refine(W6 z _).to ?_
 obtain⟨q,hq,f,hf⟩:=aMK z
 rw[hf]
 simp only[aA,seval]
 exact⟨p+1+1+1,by omega,by omega,rfl,l,q,⟨⟨hl2,hl3,hl4⟩,hpv⟩,hq,rfl⟩
theorem aUW(bs:List Bt)(c p:Nat)(st:aB)(hp:p+100≤1099511627776)(hR:dG st c bs p) :
 aD prog 58 [.ptr c 0] st (Dr bs c p 100 st (fun r=>∃(l:List Cl) (q:List Tm),(2≤l.length∧l.length≤20∧∀x∈l,uE x)∧L2 q∧r=.tup [.slice (l.map bX),.slice (q.map Tm.av)])):=
 (X7 bs c p st hp hR).mono fun _ _ ⟨p',h1,h2,h3,l,q,h4,h5,h6⟩=>⟨p',h1,h2,h3,l,q,h4.1,h5.1,h6⟩
theorem aSM(code:List Bt)(st:aB):aD prog 20 [.slice (code.map iC)] st (fun r st'=>(∃(p:List Cl) (q:List Tm) (most fuel:Int),(q.length≤41∧-1≤fuel∧fuel≤301)∧r=.tup [.slice (p.map bX),.slice (q.map Tm.av),.int .i64 most,.int .i64 fuel])∧st'=st):=by
 refine aD.drop ?_
 refine wF [1000000] 1 func20 ntmps20 rfl rfl ?_
 intro _
 simp only[aA,seval]
 refine(XJ code _).mono ?_
 rintro _ _ ⟨c,bs,rfl,hc,rfl⟩
 have hD:∀o,aL (st.aC c o) st:=fun o=>(aL.refl _).aC hc
 simp only[aA,seval]
 refine(aUW bs c 0 _ (by omega) dG.new).mono ?_
 rintro _ _ ⟨p1,r1,r2,rfl,l,q,⟨l1,l2,l3⟩,⟨q1,q2⟩,rfl⟩
 rw[cY]
 simp only[aA,seval]
 refine(aUV bs c p1 _ (by omega) dG.new).mono ?_
 rintro _ _ ⟨p2,s1,s2,rfl,n,rfl⟩
 rw[cY]
 simp only[aA,seval]
 refine(aUH bs c p2 l l3 l1 (by omega) _ (by omega) dG.new).mono ?_
 rintro _ _ ⟨p3,t1,t2,rfl,l',rfl⟩
 rw[cY]
 simp only[aA,seval]
 refine(J3 bs c p3 q q2 (by omega) _ (by omega) dG.new).mono ?_
 rintro _ _ ⟨p4,u1,u2,rfl,q',u3,rfl⟩
 rw[cY]
 simp only[aA,seval]
 refine(aUU bs c p4 _ (by omega) dG.new).mono ?_
 rintro _ _ ⟨p5,v1,v2,rfl,m,w1,w2,rfl⟩
 rw[cY]
 simp only[aWV,aA,seval]
 exact⟨hD _,l',q',n,m,⟨u3,w1,w2⟩,rfl⟩
end Go.AW
namespace Go.AW

end Go.AW
namespace Go.AW
open Go.Proofs.Tryz

end Go.AW
namespace Go.AW
def NX(t:Tm):Prop:=t.k=3∧¬(t.s=⟨#[33]⟩∧t.ts= [])
structure NcS (s:RS):Prop where
 g:∀g∈s.goals,NX g.t
 c:∀c∈s.chs,∀g∈c.rest,NX g.t
section
variable {p:List Cl} {goal:Tm} {σ0:Sub} {N0 k:Nat}
end
abbrev sEq:ByteArray:=⟨#[61]⟩
abbrev aM1:ByteArray:=⟨#[116,114,117,101]⟩
abbrev a44:ByteArray:=⟨#[102,97,105,108]⟩
def U6(t:Tm):Prop:=NX t∧(isBuiltin t.s (t.ts.length:Int)=true→t.s=sEq∨t.s=aM1∨t.s=a44)
structure PuS (s:RS):Prop where
 g:∀g∈s.goals,U6 g.t
 c:∀c∈s.chs,∀g∈c.rest,U6 g.t
inductive zL (p:List Cl):List Tm→Prop
 | nil:zL p []
 | tru {t:Tm} {rest:List Tm} (hk:t.k=3) (h:t.s=aM1) (h2:t.ts= []) (r:zL p rest):zL p (t::rest)
 | eqn {t x:Tm} {rest:List Tm} (hk:t.k=3) (h:t.s=sEq) (h2:t.ts= [x,x]) (r:zL p rest):zL p (t::rest)
 | cls {t:Tm} {rest:List Tm} {x:Cl} {μ:Int→Tm} (hx:x∈p) (h:t=x.1.aG μ) (r:zL p (x.2.map (Tm.aG μ)++rest)):zL p (t::rest)
section
variable {p:List Cl} {τ0:Int→Tm}
end
end Go.AW
namespace Go.AW
open Go.Proofs.Tryz

instance bAD:DecidableEq Tm:=fun a b=>decidable_of_iff (a.same b=true) (Tm.BD a b)
theorem a54{α:Type}{l l':List α}{i:Nat}{x y:α}(h:l.take i=l'.take i)(hx:l[i]?=some x)(hy:l'[i]?=some y)(e:x=y):l.take (i+1)=l'.take (i+1):=by
 rw[eA,eA,h,hx,hy,e]
abbrev MH:=zi aX (zi bZ (zi bS bQ))
theorem YC(l l':List Tm)(st:aB):aD prog 17 [.slice (l.map Tm.av),.slice (l'.map Tm.av)] st (fun r st'=>r=.bool (decide (l=l'))∧st'=st):=by
 refine wF [1000000] 2 func17 ntmps17 rfl rfl ?_
 simp only[d7,AV.fits,d9,aE]
 intro ⟨⟨hl,_⟩,⟨hl',_⟩⟩
 simp only[aE,aA,seval,MH]
 refine aP (fun h=>?_) (fun h=>?_)
 · simp only[iV,dB] at h
   rw[d6 (show l≠l' from fun e=>h (by rw[e]))]
   simp only[aA,seval]
 simp only[lO,bO] at h
 have hle:l.length=l'.length:=by omega
 simp only[aA,seval]
 refine dV (σ:=Unit) [1000000] [0,1] l (fun i _=>l.take i=l'.take i) (fun i _=>[(4,.bool false),(5,.int .i64 i)]) (fun _ _=>st) (by decide +kernel) ⟨(),by simp,aN.mk (by simp only[aA,↓aR,seval])⟩ (fun i x _ hx hlt bH hdr hin=>?_) (fun _ hge hin=>?_)
 case refine_2=>
  rw[dW,hle,dW] at hin
  simp only[hge,aE,aA,seval,MH]
  rw[eH hin]
 have hw:=bL (n:=(i:Int)+1)
 obtain⟨y,hy⟩:∃y,l'[i]?=some y:=⟨_,eN (hle▸hlt)⟩
 have hat:c9 prog 34 (.slice (l.map Tm.av)) (.int .i64 (i:Int))=some (.pptr x.av):=bD (av:=Tm.av) a8 hx (aH x)
 have aZW:c9 prog 34 (.slice (l'.map Tm.av)) (.int .i64 (i:Int))=some (.pptr y.av):=bD (av:=Tm.av) a8 hy (aH y)
 simp only[bH,aE,aA,seval,MH]
 refine wX [(0,1),(1,1),(2,1),(3,1),(4,1),(5,1),(6,1),(7,1),(8,0),(9,1)] [0,1,2,3,4,5,6,7,9] eR mixed rfl fN ?_
 simp only[hat,aZW,aT,aH,aA,seval,MH]
 refine(FY x y _).to ?_
 cases hs:x.same y with
 | true=>
  simp only[fU,hw,aA,seval]
  refine⟨fN,?_⟩
  exact⟨(),a54 hin hx hy ((Tm.BD x y).1 hs),aN.mk (by simp only[aA,seval])⟩
 | false=>
  simp only[iW,aA,seval]
  refine⟨fN,?_⟩
  rw[d6 (show l≠l' from fun e=>by rw[←e,hx] at hy;cases hy;rw[aOX] at hs;cases hs)]
theorem aTH(l:List Tm)(hln:l.length≤1048576)(hsz:bK Tm.nodes l≤1099511627776)(hv:∀t∈l,t.valid=true)(st:aB):aD prog 24 [.slice (l.map Tm.av)] st (fun r st'=>r=.tup [.slice ((kJ l).map Tm.av),.bool true]∧st'=st):=by
 have ha:=OR l
 rw[show l.all Tm.valid=true from dQ.2 hv] at ha
 refine wF [1000000] 1 func24 ntmps24 rfl rfl ?_
 intro _
 simp only[aA,seval]
 refine(ha _).to ?_
 simp only[fU,aA,seval]
 refine(YF l hln hsz (fun t ht=>Tm.y8 (hv t ht)) _).to ?_
 simp only[aA,seval]
end Go.AW
namespace Go.AW
def jV(c:UInt8):List ByteArray→ByteArray
 | []=>⟨#[]⟩
 | x::xs=>xs.foldl (fun o y=>(o++⟨#[c]⟩)++y) x
theorem JR(a b:ByteArray):(a++b).data.toList=a.data.toList++b.data.toList:=by simp [EZ]
theorem join_eq(c:UInt8)(l:List ByteArray):(⟨(Lib.join (l.map (·.data.toList)) [c]).toArray⟩:ByteArray)=jV c l:=by
 have hg:∀(xs:List ByteArray) (o:ByteArray),(xs.foldl (fun o y=>(o++⟨#[c]⟩)++y) o).data.toList=o.data.toList++Lib.joinTail [c] (xs.map (·.data.toList)):=by
  intro xs
  induction xs with
  | nil=>intro o;simp [Lib.joinTail]
  | cons y xs ih=>
   intro o
   rw[tX,ih,JR,JR]
   simp [Lib.joinTail]
 apply BZ
 cases l with
 | nil=>rfl
 | cons x xs=>
  show(Lib.join (x.data.toList::xs.map (·.data.toList)) [c]).toArray=_
  rw[Lib.join_cons,←hg xs x]
  try rfl
theorem a2K{c:UInt8}{l:List ByteArray}{x:ByteArray}(h:l≠[]):jV c (l++ [x])=(jV c l++⟨#[c]⟩)++x:=by
 cases l with
 | nil=>exact absurd rfl h
 | cons y l=>simp [jV,I5]
theorem OI(a:ByteArray):(⟨#[]⟩:ByteArray)++a=a:=by apply BZ;simp [EZ]
theorem WL(T:Tm→ByteArray)(l:List Tm):gT T l=jV 44 (l.map T):=by
 cases l with
 | nil=>rfl
 | cons x l=>
  show l.foldl (fun o y=>(o++⟨#[44]⟩)++T y) (⟨#[]⟩++T x)=(l.map T).foldl (fun o y=>(o++⟨#[44]⟩)++y) (T x)
  rw[OI,List.foldl_map]
theorem aLG{c:UInt8}{l:List ByteArray}{B:Nat}(h:∀x∈l,x.size≤B):(jV c l).size≤l.length*(B+1):=by
 have hg:∀(xs:List ByteArray) (o:ByteArray),(∀x∈xs,x.size≤B)→(xs.foldl (fun o y=>(o++⟨#[c]⟩)++y) o).size≤o.size+xs.length*(B+1):=by
  intro xs
  induction xs with
  | nil=>intro o _;simp
  | cons x xs ih=>
   intro o hx
   rw[tX]
   refine jP (ih _ fun y hy=>hx y (by simp [hy])) ?_
   rw[cL,cL]
   have:=hx x (by simp)
   rw[aS,oY]
   show o.size+1+_+_≤_
   omega
 cases l with
 | nil=>exact jH _
 | cons x l=>
  refine jP (hg l x fun y hy=>h y (by simp [hy])) ?_
  have:=h x (by simp)
  rw[aS,oY]
  omega
theorem a2J{c:UInt8}{l:List ByteArray}(hl:l≠[])(h:∀x∈l,1≤x.size):1≤(jV c l).size:=by
 have hg:∀(xs:List ByteArray) (o:ByteArray),1≤o.size→1≤(xs.foldl (fun o y=>(o++⟨#[c]⟩)++y) o).size:=by
  intro xs
  induction xs with
  | nil=>exact fun o h=>h
  | cons x xs ih=>intro o ho;rw[tX];refine ih _ ?_;rw[cL,cL];omega
 cases l with
 | nil=>exact absurd rfl hl
 | cons x l=>exact hg l x (h x (by simp))
def iZ(v:Int)(t:Tm):ByteArray:=(pM v++⟨#[61]⟩)++tx 1000 t
def CO(vars:List Int)(a:List Tm):ByteArray:=if vars= [] then⟨#[121,101,115]⟩ else jV 59 ((vars.zip a).map fun p=>iZ p.1 p.2)
def v7(q a:List Tm):ByteArray:=if jT q a=true then CO (aY q []) a else⟨#[]⟩
end Go.AW
namespace Go.AW
open Go.Proofs.Tryz
abbrev TG:=zi aX (zi bZ (zi cJ (zi bS bQ)))
theorem F0(t:Tm)(st:aB):aD prog 278 [t.av] st (fun r st'=>r=.bool (l7 t)∧st'=st):=by
 obtain⟨k,n,s,ts⟩:=t
 rw[LW]
 refine wF [1000000] 1 func278 ntmps278 rfl rfl ?_
 intro _
 simp only[aU]
 by_cases h1:k=3
 case neg=>
  rw[d6 h1,fB]
  simp only[h1,bP,aA,seval,TG]
 rw[eH h1,dU]
 by_cases h2:s=⟨#[46]⟩
 case neg=>
  rw[d6 h2,fB]
  simp only[h1,h2,bF,bP,aA,seval,TG]
 rw[eH h2,dU]
 have h3:decide (((ts.length:Nat):Int)=2)=decide (ts.length=2):=by rw[rT];omega
 simp only[h1,h2,h3,bF,aE,aA,seval,TG]
abbrev aNW:=zi bZ (zi cJ bQ)
theorem aTM(t:Tm)(st:aB):aD prog 279 [t.av] st (fun r st'=>r=.bool (A1 t)∧st'=st):=by
 obtain⟨k,n,s,ts⟩:=t
 have hi:=zZ k n s ts
 have hz:A1 (.mk k n s ts)=((decide (k=3)&&decide ((ts.length:Int)=0))&&decide (s=⟨#[91,93]⟩)):=by
  have h3:decide (((ts.length:Nat):Int)=0)=decide (ts.length=0):=by rw[rT];omega
  rw[aLZ,h3,I2,Bool.and_comm (decide (s=_))]
 rw[hz]
 generalize (decide (k=3)&&decide ((ts.length:Int)=0))=b at *
 simp only[aU] at hi ⊢
 refine wF [1000000] 1 func279 ntmps279 rfl rfl ?_
 intro _
 simp only[aA,seval,aNW]
 refine(hi _).to ?_
 cases b with
 | false=>simp only[fB,aA,seval]
 | true=>simp only[dU,eX,aA,seval,aNW]
abbrev a6E:=zi aX (zi kU (zi cJ yZ))
theorem YB(m:Nat)(hm:m≤25)(st:aB):aD prog 126 [.int .i64 (m:Int)] st (fun r st'=>r=.str (pM m)∧st'=st):=by
 refine wF [1000000] 1 func126 ntmps126 rfl rfl ?_
 intro _
 obtain⟨y,hy⟩:∃y,y=65+m:=⟨_,rfl⟩
 have hw1:=mW (x:=65+(m:Int)) (m:=y) (by omega) (by omega)
 have hw2:=IW (x:=(y:Int)) (m:=y) rfl (by omega)
 simp only[sO,hw1,hw2,JV,aA,seval,a6E]
 subst hy
 rfl
theorem a3Q{s:ByteArray}(h:0<bY s):s∈([⟨#[61]⟩,⟨#[92,61]⟩,⟨#[61,61]⟩,⟨#[60]⟩,⟨#[62]⟩,⟨#[61,60]⟩,⟨#[62,61]⟩,⟨#[61,58,61]⟩,⟨#[105,115]⟩,⟨#[43]⟩,⟨#[45]⟩,⟨#[42]⟩,⟨#[47,47]⟩,⟨#[109,111,100]⟩]:List ByteArray):=by
 apply xB
 intro hn
 simp only[c8,dP,dX,not_or] at hn
 simp [bY,hn] at h
theorem R9{s:ByteArray}(h:0<bY s):r7 s=iN s∧bY s≤3∧s.size≤3:=by
 have h2:=a3Q h
 clear h
 revert h2
 revert s
 decide
theorem aU9(s:ByteArray)(hop:0<bY s)(st:aB):aD prog 212 [.str s] st (fun r st'=>r=.str (n7 s)∧st'=st):=by
 obtain⟨h1,_,hs⟩:=R9 hop
 have hl:=OU s
 rw[h1] at hl
 unfold n7
 have hm:maxLen=9223372036854775807:=by rfl
 have g1:(⟨#[32]⟩:ByteArray).size+s.size≤maxLen:=by show 1+s.size≤_;omega
 have g2:((⟨#[32]⟩:ByteArray)++s).size+(⟨#[32]⟩:ByteArray).size≤maxLen:=by rw[cL];show 1+s.size+1≤_;omega
 generalize iN s=b at *
 refine wF [1000000] 1 func212 ntmps212 rfl rfl ?_
 intro _
 simp only[aA,seval]
 refine(hl _).to ?_
 cases b with
 | false=>
  rw[aF (by decide)]
  simp only[aA,seval]
 | true=>
  rw[aJ rfl]
  simp only[g1,g2,↓reduceIte,aA,seval]
theorem aU2(s:ByteArray)(hop:0<bY s)(st:aB):aD prog 211 [.str s] st (fun r st'=>r=.int .i64 (lvl (bY s):Int)∧st'=st):=by
 have h3:=(R9 hop).2.1
 have hl:=JW s
 generalize bY s=l at *
 obtain rfl | rfl | rfl:l=1∨l=2∨l=3:=by omega
 all_goals
  refine wF [1000000] 1 func211 ntmps211 rfl rfl ?_
  intro _
  simp only[aA,seval]
  refine(hl _).to ?_
  simp only[aA,↓aR,seval]
  first | done | rfl
end Go.AW

namespace Go.AW
open Go.Proofs.Tryz
open Go.Shelf
set_option linter.unusedSimpArgs false
set_option linter.unusedVariables false
set_option maxRecDepth 100000
def aLI:Go.Shelf.Ren:=⟨fun | 156=>128 | 165=>214 | 166=>215 | 169=>216 | 240=>280 | 241=>281 | 276=>324 | 277=>325 | n=>n,fun | 31=>148 | 9=>9 | 3=>3 | 4=>4 | 0=>0 | 20=>20 | 72=>235 | 76=>239 | 70=>233 | 37=>22 | 75=>238 | 127=>292 | 164=>332 | 5=>5 | 80=>241 | n=>n,fun | n=>n⟩
theorem aLH:Go.Proofs.Lays.n156 prog aLI:={
 mixed:=by kernel_rfl
 f156:=Go.Proofs.Tryz.func128.trans (fE some (by kernel_rfl))
 f165:=Go.Proofs.Tryz.func214.trans (fE some (by kernel_rfl))
 f166:=Go.Proofs.Tryz.func215.trans (fE some (by kernel_rfl))
 f169:=Go.Proofs.Tryz.func216.trans (fE some (by kernel_rfl))
 f240:=Go.Proofs.Tryz.func280.trans (fE some (by kernel_rfl))
 f241:=Go.Proofs.Tryz.func281.trans (fE some (by kernel_rfl))
 f276:=Go.Proofs.Tryz.func324.trans (fE some (by kernel_rfl))
 f277:=Go.Proofs.Tryz.func325.trans (fE some (by kernel_rfl))
 t0:=Go.Proofs.Tryz.underlying0
 a0:=Go.Proofs.Tryz.isAgg0
 z0:=Go.Proofs.Tryz.sizeOf0
 v0:=Go.Proofs.Tryz.zeroValue0
 t3:=Go.Proofs.Tryz.underlying3
 a3:=Go.Proofs.Tryz.isAgg3
 z3:=Go.Proofs.Tryz.sizeOf3
 v3:=Go.Proofs.Tryz.zeroValue3
 t4:=Go.Proofs.Tryz.underlying4
 a4:=Go.Proofs.Tryz.isAgg4
 z4:=Go.Proofs.Tryz.sizeOf4
 v4:=Go.Proofs.Tryz.zeroValue4
 t9:=Go.Proofs.Tryz.underlying9
 a9:=Go.Proofs.Tryz.isAgg9
 z9:=Go.Proofs.Tryz.sizeOf9
 v9:=Go.Proofs.Tryz.zeroValue9
 t20:=Go.Proofs.Tryz.underlying20
 a20:=Go.Proofs.Tryz.isAgg20
 z20:=Go.Proofs.Tryz.sizeOf20
 v20:=Go.Proofs.Tryz.zeroValue20
 t31:=Go.Proofs.Tryz.underlying148
 a31:=Go.Proofs.Tryz.isAgg148
 z31:=Go.Proofs.Tryz.sizeOf148
 v31:=Go.Proofs.Tryz.zeroValue148
 t37:=Go.Proofs.Tryz.underlying22
 a37:=Go.Proofs.Tryz.isAgg22
 z37:=Go.Proofs.Tryz.sizeOf22
 v37:=Go.Proofs.Tryz.zeroValue22
 t70:=Go.Proofs.Tryz.underlying233
 a70:=Go.Proofs.Tryz.isAgg233
 z70:=Go.Proofs.Tryz.sizeOf233
 v70:=Go.Proofs.Tryz.zeroValue233
 t72:=Go.Proofs.Tryz.underlying235
 a72:=Go.Proofs.Tryz.isAgg235
 z72:=Go.Proofs.Tryz.sizeOf235
 v72:=Go.Proofs.Tryz.zeroValue235
 t75:=Go.Proofs.Tryz.underlying238
 a75:=Go.Proofs.Tryz.isAgg238
 z75:=Go.Proofs.Tryz.sizeOf238
 v75:=Go.Proofs.Tryz.zeroValue238
 t76:=Go.Proofs.Tryz.underlying239
 a76:=Go.Proofs.Tryz.isAgg239
 z76:=Go.Proofs.Tryz.sizeOf239
 v76:=Go.Proofs.Tryz.zeroValue239
 t127:=Go.Proofs.Tryz.underlying292
 a127:=Go.Proofs.Tryz.isAgg292
 z127:=Go.Proofs.Tryz.sizeOf292
 v127:=Go.Proofs.Tryz.zeroValue292
 t164:=Go.Proofs.Tryz.underlying332
 a164:=Go.Proofs.Tryz.isAgg332
 z164:=Go.Proofs.Tryz.sizeOf332
 v164:=Go.Proofs.Tryz.zeroValue332 }
theorem aLF:Go.Proofs.Builder.Extra prog aLI:={
 sizeBuilder:=by kernel_rfl
 liesBuilder:=by kernel_rfl
 t5:=Go.Proofs.Tryz.underlying5
 a5:=Go.Proofs.Tryz.isAgg5
 z5:=Go.Proofs.Tryz.sizeOf5
 v5:=Go.Proofs.Tryz.zeroValue5
 infoByte:=by kernel_rfl
 cellsByte:=by kernel_rfl
 sizeByte:=by kernel_rfl
 neB5:=by decide }
-- joinEnd
theorem VK{h:bM}{st:aB}{b:Nat}:∀ {l:List ByteArray} {off:Nat},dH h st b off (l.map .str)→∀(j:Nat) (x:ByteArray),l[j]?=some x→cellAt h b (off+j)=some (.string x)
 | [],_,_,j,x,e=>by simp at e
 | a::l,off,v,0,x,e=>by
  simp only[E5,Option.some.injEq] at e
  subst e
  obtain⟨⟨cs,c1,c2,c3⟩,_⟩:=v
  have c3:cs= [.string a]:=c3.1
  subst c3
  exact c1.1
 | a::l,off,v,j+1,x,e=>by
  rw[E4] at e
  have:=VK v.2 j x e
  rwa [show(AV.str a).width=1 from rfl,xH,FB 1 j] at this
theorem aL3(l:List ByteArray)(c:UInt8)(hl:l.length≤1048576)(hs:(jV c l).size≤140737488355328)(st:aB):aD prog 128 [.slice (l.map .str),.str ⟨#[c]⟩] st (fun r st'=>r=.str (jV c l)∧st'=st):=by
 refine⟨⟨_,func128,rfl,by kernel_rfl⟩,fun w vs S V=>?_⟩
 obtain⟨v,_,rfl,v1,u,_,rfl,v2,rfl⟩:=V
 obtain⟨rfl,_⟩:=v2.BH
 have hE:∀(e:Ending) (w':World),e=.returned (.string (jV c l))∧RowKit.Below w.heap.size w w'→∃v r st',e=.returned v∧aQ w'.heap st' r v∧cW w'.heap st'∧b7 w.heap st w'.heap st'∧fJ w w'∧r=.str (jV c l)∧st'=st:=by
  rintro e w' ⟨rfl,hB⟩
  have X:Ext w.heap w'.heap:=⟨hB.size,hB.block⟩
  exact⟨_,.str (jV c l),st,rfl,⟨rfl,rfl,by show _≤(9223372036854775807:Nat);omega⟩,S.ext X,X.step st,⟨hB.os,hB.tape,hB.output⟩,rfl,rfl⟩
 have hj:=join_eq c l
 have hlen:(Lib.join (l.map (·.data.toList)) (⟨#[c]⟩:ByteArray).data.toList).length≤140737488355328:=by
  have e:(jV c l).size=(Lib.join (l.map (·.data.toList)) [c]).length:=by rw[←hj];show Array.size _=_;rw[List.size_toArray]
  rw[e] at hs
  exact hs
 have hj':(⟨(Lib.join (l.map (·.data.toList)) (⟨#[c]⟩:ByteArray).data.toList).toArray⟩:ByteArray)=jV c l:=hj
 rcases v1.EC with ⟨⟨p,rfl⟩,h⟩ | ⟨b,off,cap,rfl,e2,e3,e4,e5,e6,e7⟩
 · obtain rfl:l= []:=by simpa using h
   refine(Go.Proofs.Any.strings_Join_none aLH aLF p 0 ⟨#[c]⟩ w).mono fun e w' ⟨h1,h2⟩=>hE e w' ⟨h1,h2▸RowKit.Below.refl _ _⟩
 rw[aE] at e2 ⊢
 have g8:∀(j:Nat) x,l[j]?=some x→w.cell? ⟨b,off+j,none⟩=some (.string x):=fun j x hx=>by
  have h1:=VK e7 j x hx
  unfold cellAt at h1
  unfold World.cell?
  simp only
  split at h1
  · rename_i hb;rw[hb];exact h1
  · cases h1
 refine(Go.Proofs.Any.strings_Join aLH aLF b off cap l ⟨#[c]⟩ w g8 e5 (by omega) e2 hlen).mono fun e w' h=>hE e w' ?_
 rw[hj'] at h
 exact h
end Go.AW

namespace Go.AW
open Go.Proofs.Tryz
def B9(T:Tm→ByteArray)(t:Tm):Prop:=(∀st:aB,st g9=some iP→aD prog 127 [t.av] st (fun r st'=>r=.str (T t)∧st'=st))∧(T t).size≤32*t.nodes∧1≤(T t).size∧t.nodes≤1000
def HC(T:Tm→ByteArray)(t:Tm)(lv:Nat)(right:Bool):ByteArray:=if right=true then r9 T t lv else r0 T t lv
theorem a36(u:ByteArray):uT (sb ((⟨#[40]⟩++u)++⟨#[41]⟩))=true:=by
 have h:(sb ((⟨#[40]⟩++u)++⟨#[41]⟩))[0]?=some 40:=by
  show((⟨#[40]⟩++u)++⟨#[41]⟩:ByteArray).data.toList[0]?=_
  rw[JR,JR]
  try rfl
 unfold uT
 rw[qO (c:=40) h]
 simp
theorem UR{k n:Int}{s:ByteArray}{ts:List Tm}(h:Ws (.mk k n s ts))(h2:ts.length≠0∨0<bY s):k=3:=by
 rcases yJ h.own.1 with ⟨_,_,_,rfl,h4⟩ | ⟨_,_,_,rfl,h4⟩ | ⟨h3,_⟩
 · rcases h2 with h2 | h2
   · omega
   · exact absurd h2 (by decide)
 · rcases h2 with h2 | h2
   · omega
   · exact absurd h2 (by decide)
 · exact h3
theorem a3R{T:Tm→ByteArray}{k n:Int}{s:ByteArray}{ts:List Tm}(hw:Ws (.mk k n s ts))(lv:Nat)(right:Bool) :
 HC T (.mk k n s ts) lv right=if(decide (ts.length=2)&&decide (lv<bY s))=true∨(decide (ts.length=0)&&decide (0<bY s))=true∨(right&& !uT (sb (T (.mk k n s ts))))=true then(⟨#[40]⟩++T (.mk k n s ts))++⟨#[41]⟩ else T (.mk k n s ts):=by
 have hin:pK (.mk k n s ts)=(decide (ts.length=2)&&decide (0<bY s)):=by
  rw[RL]
  by_cases h:ts.length=2
  · rw[eH (UR hw (.inl (by omega))),dU]
  · rw[d6 h,fB,lN]
 have hso:BG (.mk k n s ts)=(decide (ts.length=0)&&decide (0<bY s)):=by
  rw[aNF]
  by_cases h:0<bY s
  · rw[eH (UR hw (.inr h)),dU]
  · rw[d6 h,lN,lN]
 generalize hu:T (.mk k n s ts)=u
 have hpb:=a36 u
 generalize hW:(⟨#[40]⟩++u)++⟨#[41]⟩=W at *
 have hbr:rO T (.mk k n s ts) lv=if(decide (ts.length=2)&&decide (lv<bY s))=true then W else u:=by
  unfold rO
  rw[hin,hu,hW]
  have:(decide (ts.length=2)&&decide (0<bY s)&&decide (lv<bY (Tm.mk k n s ts).s))=(decide (ts.length=2)&&decide (lv<bY s)):=by
   show(decide (ts.length=2)&&decide (0<bY s)&&decide (lv<bY s))=_
   by_cases h:lv<bY s
   · rw[eH h,eH (show 0<bY s by omega),u7]
   · rw[d6 h,lN,lN]
  rw[this]
 unfold HC r9 r0
 rw[hso,hbr,hu,hW]
 by_cases h2:ts.length=2
 · rw[eH h2,d6 (show ¬ts.length=0 by omega),dU,fB]
   by_cases h:lv<bY s
   · rw[eH h]
     simp [hpb]
   · rw[d6 h]
     cases right<;>simp [hW]
 · rw[d6 h2,fB]
   cases hz:(decide (ts.length=0)&&decide (0<bY s))<;>cases right<;>simp [hW]
theorem aTL(x:UInt8)(st:aB):aD prog 277 [.int .u8 (x.toNat:Int)] st (fun r st'=>r=.bool (dK x)∧st'=st):=by
 refine wF [] 1 func277 ntmps277 rfl rfl ?_
 intro _
 unfold dK
 by_cases b1:48≤x.toNat
 case' pos=>have b1':((48:Int)≤(x.toNat:Int))=True:=cK (by omega)
 case' neg=>have b1':((48:Int)≤(x.toNat:Int))=False:=bU (by omega)
 all_goals
  by_cases b2:x.toNat≤57
  case' pos=>have b2':((x.toNat:Int)≤57)=True:=cK (by omega)
  case' neg=>have b2':((x.toNat:Int)≤57)=False:=bU (by omega)
 all_goals
  simp only[b1',b2',bF,bP,aA,seval]
  simp [b1,b2]
abbrev HV:=zi aX (zi bZ (zi kU (zi cJ (zi bS bQ))))
set_option maxHeartbeats 4000000 in
theorem YP{T:Tm→ByteArray}(t:Tm)(hw:Ws t)(hT:B9 T t)(lv:Nat)(hlv:lv≤10)(right:Bool)(st:aB)(hP:st g9=some iP):aD prog 210 [t.av,.int .i64 (lv:Int),.bool right] st (fun r st'=>r=.str (HC T t lv right)∧st'=st):=by
 obtain⟨c1,c2,c3,c4⟩:=hT
 have hm:maxLen=9223372036854775807:=by rfl
 have hs1:(⟨#[40]⟩:ByteArray).size+(T t).size≤maxLen:=by show 1+_≤_;omega
 have hs2:((⟨#[40]⟩:ByteArray)++T t).size+(⟨#[41]⟩:ByteArray).size≤maxLen:=by rw[cL];show 1+_+1≤_;omega
 obtain⟨x,hx⟩:=uD (s:=T t) (n:=0) (by omega)
 have hix:=rZ (P:=prog) (t:=9) rB hx
 rw[show((0:Nat):Int)=0 from rfl] at hix
 have hpl:uT (sb (T t))=(letter x||(dK x||(rC x||(decide (x.toNat=91)||decide (x.toNat=40))))):=by
  unfold uT;simp only[uR hx,qO hx]
 obtain⟨k,n,s,ts⟩:=t
 rw[a3R hw]
 have hat:=zZ k n s ts
 have GV:=JW s
 have hop:=JZ s
 have hdg:=aTL x
 have hk3:=fun h=>UR hw h
 generalize T (.mk k n s ts)=u at *
 clear hx c2 c3 c4 hw
 simp only[aU] at c1 hat ⊢
 obtain⟨l,hl⟩:∃l,l=if ts.length=2 then bY s else 0:=⟨_,rfl⟩
 obtain⟨a,ha⟩:∃a,a=(decide (ts.length=0)&&decide (0<bY s)):=⟨_,rfl⟩
 have hlt:(decide (ts.length=2)&&decide (lv<bY s))=decide (lv<l):=by
  rw[hl]
  by_cases h:ts.length=2
  · rw[aJ h,eH h,dU]
  · rw[aF h,d6 h,fB,d6 (Nat.not_lt_zero lv)]
 have hab:a=((decide (k=3)&&decide ((ts.length:Int)=0))&&decide ((0:Int)<(bY s:Int))):=by
  have e1:decide ((ts.length:Int)=0)=decide (ts.length=0):=by rw[rT];omega
  have e2:decide ((0:Int)<(bY s:Int))=decide (0<bY s):=by rw[rT];omega
  rw[ha,e1,e2]
  by_cases h:0<bY s
  · rw[eH (hk3 (.inr h)),dU]
  · rw[d6 h,lN,lN]
 rw[hlt,←ha]
 generalize (decide (k=3)&&decide ((ts.length:Int)=0))=b at *
 generalize decide ((0:Int)<(bY s:Int))=o at *
 generalize hpb:uT (sb u)=pb at *
 generalize hWe:((⟨#[40]⟩:ByteArray)++u)++⟨#[41]⟩=W at *
 refine wF [1000000] 3 func210 ntmps210 rfl rfl ?_
 intro _
 simp only[aA,seval,HV]
 refine(c1 _ hP).to ?_
 simp only[aE,aA,seval,HV]
 by_cases h2:ts.length=2
 case' pos=>
  have h2':=cK (show(ts.length:Int)=2 by omega)
  rw[aJ h2] at hl
  simp only[h2',gE,↓reduceIte,bF,aA,seval,HV]
  refine(GV _).to ?_
  rw[←hl]
 case' neg=>
  have h2':=bU (show ¬(ts.length:Int)=2 by omega)
  rw[aF h2] at hl
  simp only[h2',hix,↓reduceIte,bP,aA,seval]
  rw[show(0:Int)=(l:Int) by rw[hl];try rfl]
 all_goals
  clear hl h2 h2' GV hlt ha hk3
  by_cases b1:97≤x.toNat
  case' pos=>have b1':((97:Int)≤(x.toNat:Int))=True:=cK (by omega)
  case' neg=>have b1':((97:Int)≤(x.toNat:Int))=False:=bU (by omega)
 all_goals
  by_cases b2:x.toNat≤122
  case' pos=>have b2':((x.toNat:Int)≤122)=True:=cK (by omega)
  case' neg=>have b2':((x.toNat:Int)≤122)=False:=bU (by omega)
 all_goals
  by_cases b3:65≤x.toNat
  case' pos=>have b3':((65:Int)≤(x.toNat:Int))=True:=cK (by omega)
  case' neg=>have b3':((65:Int)≤(x.toNat:Int))=False:=bU (by omega)
 all_goals
  by_cases b4:x.toNat≤90
  case' pos=>have b4':((x.toNat:Int)≤90)=True:=cK (by omega)
  case' neg=>have b4':((x.toNat:Int)≤90)=False:=bU (by omega)
 all_goals
  by_cases b5:x.toNat=91
  case' pos=>have b5':((x.toNat:Int)=91)=True:=cK (by omega)
  case' neg=>have b5':((x.toNat:Int)=91)=False:=bU (by omega)
 all_goals
  by_cases b6:x.toNat=40
  case' pos=>have b6':((x.toNat:Int)=40)=True:=cK (by omega)
  case' neg=>have b6':((x.toNat:Int)=40)=False:=bU (by omega)
 all_goals try (exfalso;omega)
 all_goals
  simp only[letter,rC,b1,b2,b3,b4,b5,b6,bF,bP,u7,lN,vA,xA,pU,BY] at hpl
  simp only[b1',b2',b3',b4',hix,gE,↓reduceIte,bF,bP,fU,aA,seval]
 all_goals try (refine(hdg _).to ?_)
 all_goals cases hd:dK x
 all_goals try (exfalso;simp only[dK,cB,Bool.and_eq_false_iff,bO,dB] at hd;omega)
 all_goals
  try simp only[hd] at hpl
  try (simp only[b5',b6',gE,↓reduceIte,bF,bP,aA,seval])
 all_goals
  subst hpl
  clear b1 b2 b3 b4 b5 b6 b1' b2' b3' b4' b5' b6' hdg
  by_cases hll:lv<l
  case' pos=>have aKT:((lv:Int)<(l:Int))=True:=cK (by omega)
  case' neg=>have aKT:((lv:Int)<(l:Int))=False:=bU (by omega)
 all_goals
  rw[show decide (lv<l)=decide ((lv:Int)<(l:Int)) by rw[rT];omega]
  simp only[aKT]
  simp only[hs1,hs2,hWe,true_or,false_or,dX,u7,lN,gE,↓reduceIte,bF,bP,fU,iW,aA,seval,HV]
 all_goals
  refine(hat _).to ?_
  cases b
  case' false=>obtain rfl:a=false:=by simpa using hab
  all_goals simp only[false_or,gE,↓reduceIte,fU,aA,seval,HV]
 all_goals try (refine(hop _).to ?_;cases o;(obtain rfl:a=false:=by simpa using hab);rotate_left;(obtain rfl:a=true:=by simpa using hab))
 all_goals try (simp only[hs1,hs2,hWe,true_or,false_or,gE,↓reduceIte,aA,seval])
 all_goals (cases right;simp only[gE,↓reduceIte,fU,aA,seval])
 all_goals (simp only[hs1,hs2,hWe,gE,↓reduceIte,fU,iW,aA,seval])
theorem vQ(a b c:ByteArray):(a++b)++c=a++(b++c):=by apply BZ;simp [EZ]
def HT(T:Tm→ByteArray)(n:Nat)(t:Tm):ByteArray:=if l7 t=true then yG T (spine n t) else if zW t=true then((t.s++⟨#[40]⟩)++gT T t.ts)++⟨#[41]⟩ else wK t
abbrev mR:=zi aX (zi bZ (zi cJ (zi bS (zi bQ mA))))
set_option maxHeartbeats 2000000 in
theorem aVP{T:Tm→ByteArray}(n:Nat)(t:Tm)(hn:t.nodes≤n+1)(hws:Ws t)(wC:t.nodes≤1000)(hT:∀x,Ws x→x.nodes<t.nodes→B9 T x)(hp:l7 t=true)(st:aB)(hP:st g9=some iP):aD prog 213 [t.av,.func 127 []] st (fun r st'=>r=.str (yG T (spine n t))∧st'=st):=by
 obtain⟨q1,q2,q3⟩:=L8 n t hws
 obtain⟨e1,e2⟩:=S6 n t hn
 have dR:=S5 n t
 have hnp:=mO (spine n t).2
 have hne:1≤(spine n t).1.length:=by
  cases n with
  | zero=>obtain⟨m,x,y,rfl⟩:=wN hp;simp only[Tm.gK,bK] at hn;have:=mO x;omega
  | succ m=>unfold spine;rw[aJ hp];simp
 generalize spine n t=p at *
 obtain⟨its,tl⟩:=p
 simp only at q1 q2 q3 e1 e2 dR hnp hne
 have hTi:∀x∈its,B9 T x:=fun x hx=>hT x (q1 x hx) (by have:=LQ hx;omega)
 obtain⟨c1,c2,c3,c4⟩:=hT tl q2 (by omega)
 have P9:=fun i=>CR (T:=T) (l:=its.take i) fun x hx=>(hTi x (lB hx)).2.1
 have GY:=fun i=>S7 its i
 have hm:maxLen=9223372036854775807:=by rfl
 cases its with
 | nil=>simp at hne
 | cons y its=>
 obtain⟨y1,y2,y3,y4⟩:=hTi y (by simp)
 obtain⟨m,y',z,rfl⟩:=wN hp
 have h0:=(dR 0 y rfl).2
 rw[show pR 0 (.mk 3 m ⟨#[46]⟩ [y',z])=.mk 3 m ⟨#[46]⟩ [y',z] from rfl,tF.1] at h0
 subst h0
 have hz:pR 1 (.mk 3 m ⟨#[46]⟩ [y',z])=z:=rfl
 have ha1:gT T [y']=T y':=OI _
 have hs0:(⟨#[91]⟩:ByteArray).size+(T y').size≤maxLen:=by show 1+_≤_;omega
 have hs1:∀i,(⟨#[91]⟩:ByteArray).size+(gT T ((y'::its).take i)).size≤100000:=fun i=>by
  have h1:=P9 i
  have h2:=GY i
  have h3:((y'::its).take i).length≤(y'::its).length:=by rw[dC];omega
  show 1+_≤_
  omega
 have hs2:∀i,((⟨#[91]⟩:ByteArray)++gT T ((y'::its).take i)).size≤100000:=fun i=>by
  rw[cL]
  exact hs1 i
 refine aD.oH ?_
 simp only[aU]
 have hi0:=bD (av:=Tm.av) (l:=[y',z]) (i:=0) a8 rfl (aH y')
 have hi1:=bD (av:=Tm.av) (l:=[y',z]) (i:=1) a8 rfl (aH z)
 rw[show((0:Nat):Int)=0 from rfl] at hi0
 rw[show((1:Nat):Int)=1 from rfl] at hi1
 simp only[aZ,aV] at hi0 hi1 ⊢
 have hpt:=F0 (.mk 3 m ⟨#[46]⟩ [y',z])
 rw[hp] at hpt
 simp only[aU,aZ,aV] at hpt
 refine wF [1000000,6] 2 func213 ntmps213 rfl rfl ?_
 intro _
 simp only[↓reduceIte,bP,aA,seval,mR]
 refine(hpt _).to ?_
 simp only[aT,aH,↓reduceIte,hi0,aA,seval,mR]
 refine(y1 _ hP).to ?_
 simp only[hs0,aK,aT,aH,bT,bR,↓reduceIte,hi1,aA,↓aR,seval,mR]
 intro b1 hb1
 have hPb:∀o,(st.aC b1 o) g9=some iP:=fun o=>by rw[aB.aM _ _ (fun e=>by rw[←e,hP] at hb1;cases hb1)];exact hP
 have hD:=fun(o:AO)=>(aL.refl st).aC (o:=o) hb1
 refine dV (σ:=Unit) [1000000,6] [1,2,4,6] its (fun _ _=>True) (fun i _=>[(5,.str (⟨#[91]⟩++gT T ((y'::its).take (i+1))))]) (fun i _=>st.aC b1 (.cells (pR (i+1) (.mk 3 m ⟨#[46]⟩ [y',z])).av.cells)) (by decide +kernel) ⟨(),trivial,aN.mk (by simp only[fZ,ha1,↓reduceIte,aA,seval])⟩ (fun i x _ hx hlt bH hdr _=>?_) (fun _ hge _=>?_)
 case refine_1=>
  obtain⟨g1,g2⟩:=dR (i+1) x (by simpa using hx)
  have hst:=S4 (i+1) (.mk 3 m ⟨#[46]⟩ [y',z])
  have gA:=WM (T:=T) (l:=y'::its) (i:=i+1) (x:=x) (by simpa using hx)
  rw[aJ (by omega)] at gA
  obtain⟨x1,x2,x3,x4⟩:=hTi x (by simp [cD hx])
  have hsA:=hs2 (i+1)
  have hsB:=hs2 (i+1+1)
  generalize pR (i+1) (.mk 3 m ⟨#[46]⟩ [y',z])=u at *
  have hpu:=F0 u
  rw[g1] at hpu
  obtain⟨m',w1,w2,rfl⟩:=wN g1
  rw[tF.1] at g2
  rw[tF.2] at hst
  subst g2
  have hcs:(Tm.mk 3 m' ⟨#[46]⟩ [w1,w2]).av.cells= [.int .i64 3,.int .i64 m',.str ⟨#[46]⟩,.slice [w1.av,w2.av]]:=by rw[aU];try rfl
  have hlk:=aB.aO st b1 (.cells [.int .i64 3,.int .i64 m',.str ⟨#[46]⟩,.slice [w1.av,w2.av]])
  have hj0:=bD (av:=Tm.av) (l:=[w1,w2]) (i:=0) a8 rfl (aH w1)
  have hj1:=bD (av:=Tm.av) (l:=[w1,w2]) (i:=1) a8 rfl (aH w2)
  rw[show((0:Nat):Int)=0 from rfl] at hj0
  rw[show((1:Nat):Int)=1 from rfl] at hj1
  simp only[aU,aZ,aV] at hpu hj0 hj1
  rw[hcs,hst]
  rw[gA,←vQ,←vQ,vQ] at hsB
  rw[gA,←vQ,←vQ,vQ (⟨#[91]⟩++_)]
  generalize (⟨#[91]⟩:ByteArray)++gT T ((y'::its).take (i+1))=A at *
  have hg1:(⟨#[44]⟩:ByteArray).size+(T w1).size≤maxLen:=by show 1+_≤_;omega
  have hg2:A.size+((⟨#[44]⟩:ByteArray)++T w1).size≤maxLen:=by rw[←cL];omega
  simp only[↓reduceIte,hlk,aA,seval,mR]
  refine(hpu _).to ?_
  simp only[aT,aH,↓reduceIte,hlk,hj0,aA,seval,mR]
  refine(x1 _ (hPb _)).to ?_
  simp only[aK,aT,aH,bT,bR,↓reduceIte,hlk,hj1,hg1,hg2,cY,aA,seval,mR]
  exact⟨(),aN.mk (by simp only[↓reduceIte,aA,seval])⟩
 have htk:(y'::its).take (its.length+1)=y'::its:=lC (by simp)
 have hsA:=hs2 (its.length+1)
 rw[htk] at hsA ⊢
 rw[show pR (its.length+1) (.mk 3 m ⟨#[46]⟩ [y',z])=tl from e1.symm]
 have hpu:=F0 tl
 rw[e2] at hpu
 have hnt:=aTM tl
 unfold yG
 simp only
 obtain⟨A,hA⟩:∃A,A=(⟨#[91]⟩:ByteArray)++gT T (y'::its):=⟨_,rfl⟩
 rw[←hA] at hsA ⊢
 have hlk:=aB.aO st b1 (.cells tl.av.cells)
 have hag:=eE (aT tl)
 have hw1:A.size+(⟨#[93]⟩:ByteArray).size≤maxLen:=by show _+1≤_;omega
 simp only[bR,eJ (bR _),eE (aT _),↓reduceIte,hlk,aA,seval,mR]
 refine(hpu _).to ?_
 simp only[bR,eJ (bR _),eE (aT _),↓reduceIte,hlk,aA,seval,mR]
 refine(hnt _).to ?_
 cases hnk:A1 tl with
 | true=>
  rw[aJ rfl]
  simp only[hw1,fU,↓reduceIte,aA,seval]
  exact hD _
 | false=>
  rw[aF (by decide),vQ A]
  have hg1:(⟨#[124]⟩:ByteArray).size+(T tl).size≤maxLen:=by show 1+_≤_;omega
  have hg2:A.size+((⟨#[124]⟩:ByteArray)++T tl).size≤maxLen:=by rw[cL];show _+(1+_)≤_;omega
  have hg3:(A++((⟨#[124]⟩:ByteArray)++T tl)).size+(⟨#[93]⟩:ByteArray).size≤maxLen:=by rw[cL,cL];show _+(1+_)+1≤_;omega
  simp only[iW,bR,eJ (bR _),eE (aT _),↓reduceIte,hlk,aA,seval,mR]
  refine(c1 _ (hPb _)).to ?_
  simp only[hg1,hg2,hg3,↓reduceIte,aA,seval]
  exact hD _
set_option maxHeartbeats 2000000 in
theorem aVN{T:Tm→ByteArray}(t:Tm)(hws:Ws t)(wC:t.nodes≤1000)(hT:∀x,Ws x→x.nodes<t.nodes→B9 T x)(hp:l7 t=false)(ha:zW t=true)(st:aB)(hP:st g9=some iP):aD prog 213 [t.av,.func 127 []] st (fun r st'=>r=.str (((t.s++⟨#[40]⟩)++gT T t.ts)++⟨#[41]⟩)∧st'=st):=by
 obtain⟨k,m,s,ts⟩:=t
 have hpt:=F0 (.mk k m s ts)
 rw[hp] at hpt
 rw[FS,cB,bO,bO] at ha
 obtain⟨rfl,h0⟩:=ha
 have h0':((ts.length:Int)=0)=False:=bU (by omega)
 simp only[Tm.gK] at wC hT
 have hk:=hws.own.2
 have h6:s.size≤6:=hws.size.1
 have h4:ts.length≤4:=by rcases yJ hws.own.1 with h | h | h<;>omega
 have hTi:∀x∈ts,B9 T x:=fun x hx=>hT x (hk x hx) (by have:=LQ hx;omega)
 have P9:=CR (T:=T) (l:=ts) fun x hx=>(hTi x hx).2.1
 have hm:maxLen=9223372036854775807:=by rfl
 have hjn:=aL3 (ts.map T) 44 (by rw[aE];omega) (by rw[←WL];omega)
 rw[←WL] at hjn
 show aD prog 213 _ st (fun r st'=>r=.str (((s++⟨#[40]⟩)++gT T ts)++⟨#[41]⟩)∧st'=st)
 have hs1:s.size+(⟨#[40]⟩:ByteArray).size≤maxLen:=by show _+1≤_;omega
 have hs2:(s++(⟨#[40]⟩:ByteArray)).size+(gT T ts).size≤maxLen:=by rw[cL];show _+1+_≤_;omega
 have hs3:((s++(⟨#[40]⟩:ByteArray))++gT T ts).size+(⟨#[41]⟩:ByteArray).size≤maxLen:=by rw[cL,cL];show _+1+_+1≤_;omega
 generalize gT T ts=A at *
 simp only[aU] at hpt ⊢
 refine wF [1000000,6] 2 func213 ntmps213 rfl rfl ?_
 intro _
 simp only[↓reduceIte,bP,aA,seval,mR]
 refine(hpt _).to ?_
 simp only[↓reduceIte,h0',aE,bP,aA,seval,mR]
 refine oA (σ:=Unit) [1000000,6] [1,2,4,72,73] ts 1 7 (fun i _=>(ts.take i).map fun x=>.str (T x)) (fun _ _=>True) (fun i _=>[(74,.int .i64 (i:Int))]) (fun i _=>st) (fun i _ _ e he=>by simp only[cI] at he;obtain⟨x,_,rfl⟩:=he;exact⟨rfl,rfl⟩) (by decide +kernel) ⟨(),0,trivial,fun h=>absurd rfl h,aN.mk (by simp only[iK,jG,aV,↓reduceIte,aA,↓aR,seval])⟩ (fun i x s' b hx hlt bH hdr hinv hb=>?_) (fun s' b hge hinv=>?_)
 case refine_1=>
  have hat:=bD (av:=Tm.av) a8 hx (aH x)
  have cF:((ts.take i).map fun x=>AV.str (T x)).length=i:=by simp only[aE,dC];omega
  have htk:(ts.take i).map (fun x=>AV.str (T x))++ [.str (T x)]=(ts.take (i+1)).map fun x=>AV.str (T x):=by rw[eA,hx];simp
  have hPa:(a7 st b ((ts.take i).map fun x=>AV.str (T x))) g9=some iP:=FP hb hP
  have hwi:=bL (n:=(i:Int)+1)
  have hLw:∀e∈(ts.take i).map (fun x=>AV.str (T x)),e.width=1:=fun e he=>by simp only[cI] at he;obtain⟨x,_,rfl⟩:=he;rfl
  obtain⟨x1,x2,x3,x4⟩:=hTi x (cD hx)
  generalize (ts.take i).map (fun x=>AV.str (T x))=L at *
  simp only[bH,aT,aH,bT,cC,↓reduceIte,hat,aA,↓aR,seval,mR]
  refine(x1 _ hPa).to ?_
  simp only[↓reduceIte,aA,seval,mR]
  refine eD qC KH KL rfl rfl (eO rfl rfl) (fun e he=>hLw e he) hb (by simp only[cF,aS,aW];omega) (by simp only[cF,aS,aW];omega) (fun b' hb'=>?_)
  rw[htk] at hb' ⊢
  simp only[hwi,↓reduceIte,aA,seval]
  exact⟨(),b',hb',aN.mk (by simp only[↓reduceIte,aA,seval])⟩
 rw[dW]
 rw[rI] at hjn
 simp only[hge,dZ,iD,gV,uJ,P0,kF,↓reduceIte,aA,seval]
 refine wP [(0,1),(3,1),(1,2),(2,1),(4,2),(5,1),(6,1),(7,1)] [0,3,1,2,4,5,6,7] mixed ?_
 simp only[hs1,↓reduceIte,aA,seval,mR]
 refine fK (hjn _) ?_
 simp only[hs2,hs3,↓reduceIte,aA,seval]
theorem aVO(t:Tm)(hws:Ws t)(ha:l7 t=false)(hb:zW t=false)(st:aB)(hP:st g9=some iP):aD prog 213 [t.av,.func 127 []] st (fun r st'=>r=.str (wK t)∧st'=st):=by
 obtain⟨k,n,s,ts⟩:=t
 have hpt:=F0 (.mk k n s ts)
 rw[ha] at hpt
 rw[FS] at hb
 rw[show wK (.mk k n s ts)=if k=1 then pM n else if k=2 then mK n else s from rfl]
 simp only[aU] at hpt ⊢
 refine wF [1000000,6] 2 func213 ntmps213 rfl rfl ?_
 intro _
 rcases yJ hws.own.1 with ⟨rfl,h1,h2,rfl,h4⟩ | ⟨rfl,h1,h2,rfl,h4⟩ | ⟨rfl,rfl,h2,h4⟩
 · obtain⟨m,rfl⟩:=pV h1
   simp only[↓reduceIte,bF,aA,seval,mR]
   refine(YB m (by omega) _).to ?_
   simp only[↓reduceIte,aA,seval]
 · simp only[↓reduceIte,bF,bP,aA,seval,mR]
   refine(RX n h1 h2 _ hP).to ?_
   simp only[↓reduceIte,aA,seval]
 · simp only[bF,dU,dB] at hb
   have h0':((ts.length:Int)=0)=True:=cK (by omega)
   simp only[↓reduceIte,bP,aA,seval,mR]
   refine(hpt _).to ?_
   simp only[h0',aE,↓reduceIte,aE,bF,aA,seval,mR]
end Go.AW
