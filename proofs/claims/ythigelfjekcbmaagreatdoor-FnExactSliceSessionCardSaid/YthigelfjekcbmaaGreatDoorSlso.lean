import Derived.Test.YthigelfjekcbmaaGreatDoorSlsn
import Derived.Test.YthigelfjekcbmaaGreatDoorSlsl
import Derived.Test.YthigelfjekcbmaaGreatDoorSlsm
import Derived.Test.YthigelfjekcbmaaGreatDoorSlsk
import Derived.Test.YthigelfjekcbmaaGreatDoorSlsj
set_option linter.unusedSimpArgs false
set_option linter.unusedVariables false
set_option maxRecDepth 100000
namespace Go.AW
open Go.Proofs.Tryz
abbrev aH0:=zi tI_3 (zi zI_3 (zi aY (zi tI_52 (zi zI_52 (zi bU (zi bV (zi bX (zi bY bT))))))))
theorem aNK(n:Int)(F:Nat)(h0:0≤n)(h1:n≤1048576)(hF:F≤536870912)(st:aA):aD prog 236 [.int .i64 n,.pptr (.int .i64 (F:Int))] st (fun r st'=>r=(vr (n+(F:Int))).av∧st'=st):=by
 refine aD.done ?_
 refine wF [1000000] 2 func236 ntmps236 rfl rfl ?_
 intro _
 have hw:=bJ (n:=n+(F:Int))
 simp -implicitDefEqProofs only[hw,aB,seval,aH0]
 intro b3 h3
 refine(K4 _ _).to ?_
 simp -implicitDefEqProofs only[aS,Tm.dY,Tm.eV,oP (Tm.eV _),nX (b7 _),aB,seval,aH0]
 exact⟨by simp only[Tm.soft],(aM.refl _).aC h3⟩
theorem KZ{F:Nat}(hF:F≤536870912)(t:Tm)(h:a8 26 t)(st:aA):aD prog 237 [t.av,.func 236 [.pptr (.int .i64 (F:Int))]] st (fun r st'=>r=(cU F t).av∧st'=st):=
 KW (fun v=>vr (v+(F:Int))) _ _ rfl t st h.1.small fun n hn s=>aNK n F (h.1.2.2 n hn).1 (by have:=(h.1.2.2 n hn).2;omega) hF s
theorem aD1{b:Nat}{L:List AV}(l:List IG):(dT l).fin b L=dT l:=by
 cases l with
 | nil=>rw[dT];unfold AV.fin;split<;>rfl
 | cons g l=>obtain⟨⟨k,n,s,ts⟩,cut,up⟩:=g;rw[qI];exact zX
abbrev lM:=zi tI_3 (zi zI_3 (zi aY (zi tI_4 (zi zI_4 (zi cG (zi tI_27 (zi zI_27 (zi d8 (zi f6 (zi f7 (zi gG (zi tI_28 (zi zI_28 (zi aP (zi bE (zi bF (zi b9 (zi tI_40 (zi zI_40 (zi dS (zi fV (zi fW (zi f9 (zi tI_52 (zi zI_52 (zi bU (zi bV (zi bX (zi bY (zi bT (zi tI_111 (zi zI_111 (zi jT (zi jU (zi jS (zi tI_150 (zi zI_150 (zi tI_178 (zi zI_178 (zi tI_180 (zi zI_180 (zi tI_181 (zi zI_181 (zi wU (zi F8 (zi GB (zi O3 (zi tI_182 (zi zI_182 (zi zH (zi F9 (zi GC (zi O4 (zi tI_184 (zi zI_184 (zi CR (zi CS (zi CV (zi CW (zi CX (zi CY (zi CZ (zi C3 (zi C4 (zi C5 (zi CT (zi CU (zi B7 (zi tI_209 (zi zI_209 (zi zU (zi zW (zi y9 (zi tI_215 (zi zI_215 (zi aDG (zi aDH (zi aDI (zi QO (zi tI_224 (zi zI_224 (zi aDJ (zi aDK (zi aDL (zi aDM (zi aDN (zi aDO QP)))))))))))))))))))))))))))))))))))))))))))))))))))))))))))))))))))))))))))))))))))))))
set_option maxHeartbeats 2000000 in
theorem SD{p:List Cl}(hp:∀c∈p,fJ c∧c.2.length≤6){M:Nat}(hM:M≤268435456){st0 st:aA}{S c m:Nat}{qt qc qn:AV}{q:List Tm}{idx:Bool}{fuel used mx:Int}{nd:List AV}{i:IS}(h:cW st0 st S c m qt qc qn p q idx fuel used mx nd i)
 (goal:Tm) (at':Nat) (rest:List IG) (list:List Nat) (hg:cC i.σ) (ho:cD (a8 i.fresh) i.σ) (hgo:a8 i.fresh goal) (hl:∀x∈list,x<p.length) (hll:list.length≤1048576) (ha:at'<i.nn) (hX:IX p M i) (hMl:i.fresh+26*nI i.chs+26*list.length≤M) (hch:i.chs.length≤524288) (hnn:i.nn≤524288) :
 aD prog 191 [.ptr S 0,goal.av,.int .i64 (at':Int),.slice (list.map nv),dT rest] st (fun r st'=>r=.bool (fL p goal at' rest list i).1∧∃qt' qc' mx' nd',cW st0 st' S c m qt' qc' qn p q idx fuel used mx' nd' (fL p goal at' rest list i).2):=by
 obtain⟨bN,rfl⟩:=h.nodes ha
 obtain⟨gk,gn,gs',gts⟩:=goal
 obtain⟨g1,g2,g3,g4,g5,g6⟩:=nA rest
 generalize hT:fL p (.mk gk gn gs' gts) at' rest list i=T
 simp only[aX]
 have hun:prog.underlying 40=some (.slice 3):=by kernel_rfl
 have f8:st S=some (.cells [.ptr c 0,.slice (p.map bB),.slice (q.map Tm.av),.bool idx,.bool false,.int .i64 fuel,.int .i64 used,.int .i64 i.fresh,dT i.goals,qc,.mslice bN 0 nd.length 6,.int .i64 mx]):=h.cell
 have hcc:=h.sto.sub.cells
 have htl:=h.sto.aIO (P:=prog) hun
 obtain⟨t1,t2,t3,t4,t5⟩:=h.sto.shape
 refine aD.m7 ?_
 refine wF [1000000] 5 func191 ntmps191 rfl rfl ?_
 intro _
 simp -implicitDefEqProofs only[aE,f8,hcc,htl,t1,aB,seval,lM]
 refine dQ (σ:=aA×AV) [1000000] [0,2,3,4,6,11,28,29] list (fun k s=>cW st0 s.1 S c m s.2 qc (.mslice bN 0 nd.length 6) p q idx fuel used mx nd { i with fresh:=i.fresh+26*k }∧fL p (.mk gk gn gs' gts) at' rest (list.drop k) { i with fresh:=i.fresh+26*k }=T)
  (fun k s=>[(10,.bool false),(30,.int .i64 k)]) (fun k s=>s.1) (by decide +kernel) ⟨(st,qt),⟨h,hT⟩,aR.mk (by simp -implicitDefEqProofs only[aB,↓aW,seval])⟩ (fun k x s hx hlt bD hdr hinv=>?_) (fun s hge hinv=>?_)
 case refine_2=>
  simp -implicitDefEqProofs only[hge,aB,seval]
  obtain⟨hi,he⟩:=hinv
  rw[iD] at he
  unfold fL at he
  subst he
  exact⟨s.1,aM.refl _,rfl,_,_,_,_,hi⟩
 obtain⟨st,qt⟩:=s
 obtain⟨h,hT⟩:=hinv
 simp only at h hT
 obtain⟨t1,t2,t3,t4,t5⟩:=h.sto.shape
 obtain⟨n1,n2,n3,n4,n5⟩:=h.acC.shape
 obtain⟨m1,m2,m3,m4,m5⟩:=h.acN.shape
 obtain⟨l1,l2,l3,l4,l5,l6⟩:=nA i.goals
 have hxl:=hl x (cI hx)
 obtain⟨cl,hcx⟩:∃cl,p[x]?=some cl:=⟨_,e7 hxl⟩
 obtain⟨qL,oG⟩:=hp cl (cI hcx)
 rw[hdr,fL.eq_def] at hT
 simp only[hcx] at hT
 have hat:dF prog 40 (.slice (list.map nv)) (.int .i64 (k:Int))=some (.pptr (.int .i64 (x:Int))):=bG (av:=nv) dS hx rfl
 have w6:=bG (av:=bB) (P:=prog) d8 hcx (fQ cl)
 have hw:=bJ (n:=(k:Int)+1)
 generalize hF:i.fresh+26*k=F at *
 have hFM:F+26≤M:=by have:=aFL i.chs 0;omega
 have aRM:=bJ (n:=(F:Int)+26)
 have f8:st S=some (.cells [.ptr c 0,.slice (p.map bB),.slice (q.map Tm.av),.bool idx,.bool false,.int .i64 fuel,.int .i64 used,.int .i64 F,dT i.goals,qc,.mslice bN 0 nd.length 6,.int .i64 mx]):=h.cell
 obtain⟨⟨ck,cn,cs',cts⟩,bd⟩:=cl
 rw[k9] at w6
 simp -implicitDefEqProofs only[bD,aS,f8,hat,aRM,aB,↓aW,seval,lM]
 have h2:=h.put (gl:=i.goals) (F:=F+26) (fuel':=fuel) (used':=used) (mx':=mx) (cs:=[.ptr c 0,.slice (p.map bB),.slice (q.map Tm.av),.bool idx,.bool false,.int .i64 fuel,.int .i64 used,.int .i64 ((F:Int)+26),dT i.goals,qc,.mslice bN 0 nd.length 6,.int .i64 mx]) rfl
 generalize st.aC S (.cells [.ptr c 0,.slice (p.map bB),.slice (q.map Tm.av),.bool idx,.bool false,.int .i64 fuel,.int .i64 used,.int .i64 ((F:Int)+26),dT i.goals,qc,.mslice bN 0 nd.length 6,.int .i64 mx])=V at *
 simp only at h2
 have pF:V S=some (.cells [.ptr c 0,.slice (p.map bB),.slice (q.map Tm.av),.bool idx,.bool false,.int .i64 fuel,.int .i64 used,.int .i64 ((F:Int)+26),dT i.goals,qc,.mslice bN 0 nd.length 6,.int .i64 mx]):=h2.cell
 refine wX [(0,1),(1,1),(2,1),(3,1),(4,1),(5,1),(6,1),(7,1),(8,1),(9,1),(10,1),(11,1),(12,1),(13,1),(14,0),(15,0),(16,1)] [0,1,2,3,4,5,6,7,8,9,10,11,12,13,16] (one S (.cells [.ptr c 0,.slice (p.map bB),.slice (q.map Tm.av),.bool idx,.bool false,.int .i64 fuel,.int .i64 used,.int .i64 ((F:Int)+26),dT i.goals,qc,.mslice bN 0 nd.length 6,.int .i64 mx])) mixed rfl (g9 pF) ?_
 simp -implicitDefEqProofs only[tV,w6,aB,seval,lM]
 have hsh:=fun st=>KZ (F:=F) (by omega) (.mk ck cn cs' cts) qL.head st
 have hhd:a8 ((F+26:Nat):Int) (cU F (.mk ck cn cs' cts)):=(qL.cU F (.mk ck cn cs' cts) (by simp)).mono (by have:=qL.fr.1;omega)
 have htr:=h2.sto
 obtain⟨r,σ',add,U⟩:=rA (N:=F+26) hg (fun n u e=>(ho n u e).mono (by omega)) (hgo.mono (by omega)) hhd
 have htl:i.tr.length≤i.fresh:=hX.OY
 have hun:=CE (N:=F+26) hg (fun n u e=>(ho n u e).mono (by omega)) (.mk gk gn gs' gts) (cU F (.mk ck cn cs' cts)) (hgo.mono (by omega)) hhd c m qt i.tr V h2.sto (by omega)
 rw[U.eq] at hT hun
 simp only at hT hun
 have DK:=U.xJ
 have hso:=U.t8
 clear U
 generalize hy:cU F (.mk ck cn cs' cts)=y at *
 obtain⟨yk,yn,ys,yt⟩:=y
 simp only[aX] at hsh hun ⊢
 refine(hsh _).to ?_
 simp -implicitDefEqProofs only[aB,seval]
 refine⟨g9 pF,?_⟩
 refine hun.mono ?_
 rintro _ s2 ⟨rfl,hP⟩
 obtain⟨qt2,h3⟩:=h2.post hP
 have z7:s2 S=some (.cells [.ptr c 0,.slice (p.map bB),.slice (q.map Tm.av),.bool idx,.bool false,.int .i64 fuel,.int .i64 used,.int .i64 ((F:Int)+26),dT i.goals,qc,.mslice bN 0 nd.length 6,.int .i64 mx]):=h3.cell
 simp -implicitDefEqProofs only[aB,seval]
 refine⟨g9 z7,?_⟩
 refine aT (fun hr=>?_) (fun hr=>?_)
 · have hr':r=false:=by simpa using hr
   rw[aG (by rw[hr'];simp)] at hT
   simp -implicitDefEqProofs only[z7,aB,seval,lM]
   have hud:=K3 σ' (i.tr++add) i.tr.length (by simp) c m qt2 s2 h3.sto (by
    have:=h3.sto
    have:add.length≤F+26:=AP hso.nodup hso.eW
    rw[eC];omega)
   refine hud.mono ?_
   rintro _ s4 ⟨rfl,qt4,hS4,hb4,hf4⟩
   simp -implicitDefEqProofs only[hw,aB,seval]
   have h5:=h3.OZ hS4 (fun b o hb e1 e2 _=>hf4 b o hb e1 e2) (fun b hb=>.inl (hb4 b hb))
   simp only[BH,BM,DK] at h5
   refine⟨(s4,qt4),⟨?_,?_⟩,aR.mk (by simp -implicitDefEqProofs only[aB,seval])⟩
   · rw[show i.fresh+26*(k+1)=F+26 by omega];exact h5
   · rw[show i.fresh+26*(k+1)=F+26 by omega];exact hT
 have hr':r=true:=by simpa using hr
 have aQ1:nd.length=i.nn:=h3.ndl
 rw[aK hr'] at hT
 have DO:prog.underlying 181=some (.slice 224):=by kernel_rfl
 have MP:prog.underlying 182=some (.slice 215):=by kernel_rfl
 have hlC:=h3.acC.len DO
 have hlN:=h3.acN.len MP
 rw[aE] at hlC
 rw[h3.ndl] at hlN
 simp only at hlC hlN
 have aEA:=qN (P:=prog) (b:=bN) (w:=6) (i:=at') zH (len:=nd.length) (by rw[h3.ndl];exact ha)
 simp -implicitDefEqProofs only[aE,z7,hlC,hw,n1,aB,seval,lM]
 refine aT (fun h7=>?_) (fun h7=>?_)
 · have h':k+1<list.length:=by simp at h7;omega
   have hdn:list.drop (k+1)≠[]:=by intro e;have:=tA List.length e;simp at this;omega
   rw[aG hdn] at hT
   have hsl:=fun(φ:AF) (d:Nat) (h:φ d=.int .i64 ((k:Int)+1))=>aG0 h' h
   refine wX [(0,1),(1,1),(2,1),(3,1),(4,1),(5,1),(6,1),(7,1),(8,1),(9,1),(10,1),(11,1),(12,1),(13,1),(14,1),(15,1),(16,1),(17,1),(18,1),(19,1),(20,0),(21,1),(22,1),(23,2)] [0,1,2,3,4,5,6,7,8,9,10,11,12,13,14,15,16,17,18,19,21,22] (one S (.cells [.ptr c 0,.slice (p.map bB),.slice (q.map Tm.av),.bool idx,.bool false,.int .i64 fuel,.int .i64 used,.int .i64 ((F:Int)+26),dT i.goals,qc,.mslice bN 0 nd.length 6,.int .i64 mx])) mixed rfl (g9 z7) ?_
   simp -implicitDefEqProofs only[hsl,hw,g3,g4,n1,m1,tV,aB,seval,lM]
   refine gX.append wU F8 GB rfl (by decide) h3.acC rfl (aRY ⟨.mk gk gn gs' gts,at',rest,list.drop (k+1),i.tr.length,nd.length⟩) (by rw[aE];simp only;omega) (fun qc5 s5 qJ hf hn=>?_)
   have aP4:(i.chs.map pH)++ [pH ⟨.mk gk gn gs' gts,at',rest,list.drop (k+1),i.tr.length,nd.length⟩]=(i.chs++ [(⟨.mk gk gn gs' gts,at',rest,list.drop (k+1),i.tr.length,nd.length⟩:IC)]).map pH:=by simp
   have qJ:=aP4▸qJ
   obtain⟨c1,c2,c3,c4,c5⟩:=qJ.shape
   have hS5:s5 S=s2 S:=hf S h3.parts.2.2.2.2.1 (fun hb=>by
    rcases hn S hb with h' | h'
    · exact h3.parts.2.2.2.2.1 h'
    · rw[z7] at h';cases h')
   have aEI:=hS5.trans z7
   have aQI:=g9 aEI
   simp -implicitDefEqProofs only[aS,aEI,c4,c5,m1,aA.aL,aB,seval,lM]
   refine⟨aQI,?_⟩
   have h5:=h3.aTL qJ hf hn (cs:=[.ptr c 0,.slice (p.map bB),.slice (q.map Tm.av),.bool idx,.bool false,.int .i64 fuel,.int .i64 used,.int .i64 ((F:Int)+26),dT i.goals,qc5,.mslice bN 0 nd.length 6,.int .i64 mx]) rfl
   generalize s5.aC S (.cells [.ptr c 0,.slice (p.map bB),.slice (q.map Tm.av),.bool idx,.bool false,.int .i64 fuel,.int .i64 used,.int .i64 ((F:Int)+26),dT i.goals,qc5,.mslice bN 0 nd.length 6,.int .i64 mx])=V5 at *
   rw[show(⟨.mk gk gn gs' gts,at',rest,list.drop (k+1),i.tr.length,nd.length⟩:IC)=⟨.mk gk gn gs' gts,at',rest,list.drop (k+1),i.tr.length,i.nn⟩ by rw[aQ1]] at h5
   obtain⟨csN,hbN,hcN⟩:=h5.nodeAt
   obtain⟨c1,c2,c3,c4,c5⟩:=(h5).acC.shape
   have hSN:S≠bN:=fun e=>(h5).parts.2.2.2.2.2.1 (by rw[e];simp [dA])
   have qK:=h5.cell
   simp only[fZ] at qK
   rw[show((F+26:Nat):Int)=(F:Int)+26 from rfl] at qK
   simp -implicitDefEqProofs only[aS,aE,qK,hbN,hSN,aEA,w6,aB,seval,lM]
   refine⟨by omega,?_⟩
   obtain⟨nd6,h6⟩:=(h5).aGS (x:=.int .i64 (x:Int)) (k:=at'*6+5) rfl hbN (by omega)
   have MI:=h6.ndl
   simp only at MI
   rw[show aS csN (at'*6+5) [.int .i64 (x:Int)]=List.take (at'*6+5) csN++ [AV.int IntKind.i64 (x:Int)]++List.drop (at'*6+5+1) csN from rfl] at h6
   generalize aA.aC _ bN (.cells (List.take (at'*6+5) csN++ [AV.int IntKind.i64 (x:Int)]++List.drop (at'*6+5+1) csN))=V6 at *
   have j8:=h6.cell
   simp only[fZ] at j8
   rw[show((F+26:Nat):Int)=(F:Int)+26 from rfl] at j8
   refine sO (σ:=Unit) [1000000] [0,2,3,4,6,10,11,12,13,14,15,16,28,29,30,31,32,33,34,35,36,37,38,39,40,41,42,43,44,45,46,47,48,49,50,51,52,53,54,55,56,57,58,59,60,61,62,63,64,65,66,67,68,70,71,72,73,74,75,76,77,78,79,80,81,82,83,84,85,86,87,88,89,90,91,92,93,94,95,96,97,98,99,100,101,102,103,104,105,106,107,108,109,110,111,112,113,114,115,116,117,118,119] bd 4 17 (fun j _=>((bd.take j).map (cU F)).map Tm.av) (fun _ _=>True) (fun j _=>[(120,.int .i64 j)]) (fun _ _=>V6) (fun j _ _ e he=>by simp only[cE] at he;obtain⟨t,_,rfl⟩:=he;exact⟨Tm.eG _,aO _⟩) (by decide +kernel) ⟨(),0,trivial,fun h=>absurd rfl h,aR.mk (by simp -implicitDefEqProofs only[kZ,j5,bL,aB,↓aW,seval])⟩ (fun j y5 _ b5 hx5 aQV MF aQE MD hb5=>?_) (fun _ b5 MB MD=>?_)
   · have hw5:=wrap64 (n:=(j:Int)+1) (by simp only at oG;omega) (by simp only at oG;omega)
     have LT:=bG (av:=Tm.av) (P:=prog) aP hx5 (aO y5)
     have DJ:(((bd.take j).map (cU F)).map Tm.av).length=j:=by simp only[aE,dX];omega
     have hyb:=qL.body y5 (cI hx5)
     simp -implicitDefEqProofs only[MF,LT,b7,aO,Tm.dY,Tm.eG,aB,↓aW,seval,lM]
     refine(KZ (F:=F) (by omega) y5 hyb.1 _).to ?_
     simp -implicitDefEqProofs only[b7,aO,Tm.eG,aB,seval,lM]
     refine gJ aP bE bF rfl rfl (gS (aO _) (Tm.dY _)) (gV _) hb5 (by simp only[DJ,bA,bQ];simp only at oG;omega) (by simp only[DJ,bA,bQ];simp only at oG;omega) (fun b' hb'=>?_)
     rw[show(((bd.take j).map (cU F)).map Tm.av)++ [(cU F y5).av]=((bd.take (j+1)).map (cU F)).map Tm.av by rw[fP,hx5];simp] at hb' ⊢
     simp -implicitDefEqProofs only[aB,seval]
     exact⟨(),b',hb',aR.mk (by simp -implicitDefEqProofs only[hw5,aB,seval])⟩
   · have xD:=fun st=>KY (bd.map (cU F)) i.chs.length at' rest (by simp only[aE];simp only at oG;omega) st
     simp -implicitDefEqProofs only[MB,gR,fR,tH,m8,iR,rW,zX,GS,aDR,pE,eD,aD1,aB,seval]
     refine(xD _).to ?_
     have h7:=h6.put (gl:=(bd.map (cU F)).map (fun t=>(⟨t,i.chs.length,at'⟩:IG))++rest) (F:=F+26) (fuel':=fuel) (used':=used) (mx':=mx) rfl
     simp only[fZ] at h7
     rw[show((F+26:Nat):Int)=(F:Int)+26 from rfl] at h7
     have hgl:(bd.map (cU F)).map (fun t=>(⟨t,i.chs.length,at'⟩:IG))++rest=bd.map (fun t=>(⟨cU F t,i.chs.length,at'⟩:IG))++rest:=by rw[uL];try rfl
     rw[hgl] at h7 ⊢
     generalize bd.map (fun t=>(⟨cU F t,i.chs.length,at'⟩:IG))++rest=NG at *
     obtain⟨u1,u2,u3,u4,u5,u6⟩:=nA NG
     have DI:=h7.acC.len DO
     simp only[aE] at DI
     simp -implicitDefEqProofs only[aS,j8,u4,u5,aB,seval,lM]
     generalize aA.aC V6 S _=V7 at h7 ⊢
     have lX:=h7.cell
     simp only[fZ] at lX
     rw[show((F+26:Nat):Int)=(F:Int)+26 from rfl] at lX
     refine wX [(0,1),(1,1),(2,1),(3,1),(4,1),(5,1),(6,1),(7,1),(8,1),(9,1),(10,0),(11,1),(12,1),(13,2)] [0,1,2,3,4,5,6,7,8,9,11,12] _ mixed rfl (g9 lX) ?_
     simp -implicitDefEqProofs only[aS,lX,DI,c1,tV,aB,seval,lM]
     refine⟨g9 lX,?_⟩
     subst hT
     exact⟨_,aM.refl _,rfl,qt2,_,_,nd6,h7.put (gl:=NG) (F:=F+26) rfl⟩
 · have h':list.drop (k+1)= []:=JV (by simp at h7;omega)
   rw[aK h'] at hT
   obtain⟨csN,hbN,hcN⟩:=h3.nodeAt
   obtain⟨c1,c2,c3,c4,c5⟩:=(h3).acC.shape
   have hSN:S≠bN:=fun e=>(h3).parts.2.2.2.2.2.1 (by rw[e];simp [dA])
   have qK:=h3.cell
   simp only[fZ] at qK
   rw[show((F+26:Nat):Int)=(F:Int)+26 from rfl] at qK
   simp -implicitDefEqProofs only[aS,aE,qK,hbN,hSN,aEA,w6,m1,aB,seval,lM]
   refine⟨by omega,?_⟩
   obtain⟨nd6,h6⟩:=(h3).aGS (x:=.int .i64 (x:Int)) (k:=at'*6+5) rfl hbN (by omega)
   have MI:=h6.ndl
   simp only at MI
   rw[show aS csN (at'*6+5) [.int .i64 (x:Int)]=List.take (at'*6+5) csN++ [AV.int IntKind.i64 (x:Int)]++List.drop (at'*6+5+1) csN from rfl] at h6
   generalize aA.aC _ bN (.cells (List.take (at'*6+5) csN++ [AV.int IntKind.i64 (x:Int)]++List.drop (at'*6+5+1) csN))=V6 at *
   have j8:=h6.cell
   simp only[fZ] at j8
   rw[show((F+26:Nat):Int)=(F:Int)+26 from rfl] at j8
   refine sO (σ:=Unit) [1000000] [0,2,3,4,6,10,11,12,13,14,15,16,28,29,30,31,32,33,34,35,36,37,38,39,40,41,42,43,44,45,46,47,48,49,50,51,52,53,54,55,56,57,58,59,60,61,62,63,64,65,66,67,68,70,71,72,73,74,75,76,77,78,79,80,81,82,83,84,85,86,87,88,89,90,91,92,93,94,95,96,97,98,99,100,101,102,103,104,105,106,107,108,109,110,111,112,113,114,115,116,117,118,119] bd 4 17 (fun j _=>((bd.take j).map (cU F)).map Tm.av) (fun _ _=>True) (fun j _=>[(120,.int .i64 j)]) (fun _ _=>V6) (fun j _ _ e he=>by simp only[cE] at he;obtain⟨t,_,rfl⟩:=he;exact⟨Tm.eG _,aO _⟩) (by decide +kernel) ⟨(),0,trivial,fun h=>absurd rfl h,aR.mk (by simp -implicitDefEqProofs only[kZ,j5,bL,aB,↓aW,seval])⟩ (fun j y5 _ b5 hx5 aQV MF aQE MD hb5=>?_) (fun _ b5 MB MD=>?_)
   · have hw5:=wrap64 (n:=(j:Int)+1) (by simp only at oG;omega) (by simp only at oG;omega)
     have LT:=bG (av:=Tm.av) (P:=prog) aP hx5 (aO y5)
     have DJ:(((bd.take j).map (cU F)).map Tm.av).length=j:=by simp only[aE,dX];omega
     have hyb:=qL.body y5 (cI hx5)
     simp -implicitDefEqProofs only[MF,LT,b7,aO,Tm.dY,Tm.eG,aB,↓aW,seval,lM]
     refine(KZ (F:=F) (by omega) y5 hyb.1 _).to ?_
     simp -implicitDefEqProofs only[b7,aO,Tm.eG,aB,seval,lM]
     refine gJ aP bE bF rfl rfl (gS (aO _) (Tm.dY _)) (gV _) hb5 (by simp only[DJ,bA,bQ];simp only at oG;omega) (by simp only[DJ,bA,bQ];simp only at oG;omega) (fun b' hb'=>?_)
     rw[show(((bd.take j).map (cU F)).map Tm.av)++ [(cU F y5).av]=((bd.take (j+1)).map (cU F)).map Tm.av by rw[fP,hx5];simp] at hb' ⊢
     simp -implicitDefEqProofs only[aB,seval]
     exact⟨(),b',hb',aR.mk (by simp -implicitDefEqProofs only[hw5,aB,seval])⟩
   · have xD:=fun st=>KY (bd.map (cU F)) i.chs.length at' rest (by simp only[aE];simp only at oG;omega) st
     simp -implicitDefEqProofs only[MB,gR,fR,tH,m8,iR,zX,GS,aDR,pE,eD,aD1,aB,seval]
     refine(xD _).to ?_
     have h7:=h6.put (gl:=(bd.map (cU F)).map (fun t=>(⟨t,i.chs.length,at'⟩:IG))++rest) (F:=F+26) (fuel':=fuel) (used':=used) (mx':=mx) rfl
     simp only[fZ] at h7
     rw[show((F+26:Nat):Int)=(F:Int)+26 from rfl] at h7
     have hgl:(bd.map (cU F)).map (fun t=>(⟨t,i.chs.length,at'⟩:IG))++rest=bd.map (fun t=>(⟨cU F t,i.chs.length,at'⟩:IG))++rest:=by rw[uL];try rfl
     rw[hgl] at h7 ⊢
     generalize bd.map (fun t=>(⟨cU F t,i.chs.length,at'⟩:IG))++rest=NG at *
     obtain⟨u1,u2,u3,u4,u5,u6⟩:=nA NG
     have DI:=h7.acC.len DO
     simp only[aE] at DI
     simp -implicitDefEqProofs only[aS,j8,u4,u5,aB,seval,lM]
     generalize aA.aC V6 S _=V7 at h7 ⊢
     have lX:=h7.cell
     simp only[fZ] at lX
     rw[show((F+26:Nat):Int)=(F:Int)+26 from rfl] at lX
     refine wX [(0,1),(1,1),(2,1),(3,1),(4,1),(5,1),(6,1),(7,1),(8,1),(9,1),(10,0),(11,1),(12,1),(13,2)] [0,1,2,3,4,5,6,7,8,9,11,12] _ mixed rfl (g9 lX) ?_
     simp -implicitDefEqProofs only[aS,lX,DI,c1,tV,aB,seval,lM]
     refine⟨g9 lX,?_⟩
     subst hT
     exact⟨_,aM.refl _,rfl,qt2,_,_,nd6,h7.put (gl:=NG) (F:=F+26) rfl⟩
theorem aRS(p:List Cl)(s:IS):fT p s.chs.length s=match s.chs.getLast? with
 | none=>none
 | some c=>if(fL p c.goal c.node c.rest c.list (s.pop c)).1=true then some (fL p c.goal c.node c.rest c.list (s.pop c)).2 else fT p (s.chs.length - 1) (fL p c.goal c.node c.rest c.list (s.pop c)).2:=by
 obtain⟨gl,σ,tr,chs,F,nn⟩:=s
 cases chs with
 | nil=>rfl
 | cons c l=>rw[bA,fT];try rfl
structure PF (p:List Cl) (M:Nat) (st0:aA) (S c m:Nat) (q:List Tm) (idx:Bool) (fuel used:Int) (T:Option IS) (st:aA) (qt qc qn:AV) (mx:Int) (nd:List AV) (i:IS) (cs:List RC):Prop where
 s:cW st0 st S c m qt qc qn p q idx fuel used mx nd i
 r:gH i.fresh cs i.chs i.σ i.tr
 x:IX p M i
 t:fT p i.chs.length i=T
 n:i.chs.length≤524288∧i.nn≤524288
def PG(st0 st':aA)(S c m:Nat)(p:List Cl)(q:List Tm)(idx:Bool)(fuel used:Int)(r:AV):Option IS→Prop
 | some i'=>r=.int .i64 (-1)∧∃qt qc qn mx nd,cW st0 st' S c m qt qc qn p q idx fuel used mx nd i'
 | none=>r=.int .i64 0∧∃qt qc qn mx nd i',cW st0 st' S c m qt qc qn p q idx fuel used mx nd i'
abbrev EK:=zi tI_3 (zi zI_3 (zi aY (zi tI_40 (zi zI_40 (zi dS (zi fV (zi fW (zi f9 (zi tI_52 (zi zI_52 (zi bU (zi bV (zi bX (zi bY (zi bT (zi tI_150 (zi zI_150 (zi tI_178 (zi zI_178 (zi tI_180 (zi zI_180 (zi tI_181 (zi zI_181 (zi wU (zi F8 (zi GB (zi O3 (zi tI_182 (zi zI_182 (zi zH (zi F9 (zi GC (zi O4 (zi tI_184 (zi zI_184 (zi CR (zi CS (zi CV (zi CW (zi CX (zi CY (zi CZ (zi C3 (zi C4 (zi C5 (zi CT (zi CU (zi B7 (zi tI_224 (zi zI_224 (zi aDJ (zi aDK (zi aDL (zi aDM (zi aDN (zi aDO QP))))))))))))))))))))))))))))))))))))))))))))))))))))))))
set_option maxHeartbeats 2000000 in
theorem KS{p:List Cl}(hp:∀c∈p,fJ c∧c.2.length≤6){M:Nat}(hM:M≤16777216){st0:aA}{S c m:Nat}{q:List Tm}{idx:Bool}{fuel used:Int}{T:Option IS}(st:aA)(qt qc qn:AV)(mx:Int)(nd:List AV)(i:IS)(cs:List RC)
 (hI:PF p M st0 S c m q idx fuel used T st qt qc qn mx nd i cs) :
 aD prog 153 [.ptr S 0] st (fun r st'=>PG st0 st' S c m p q idx fuel used r T):=by
 refine aD.m7 ?_
 refine wF [1000000] 1 func153 ntmps153 rfl rfl ?_
 intro _
 simp -implicitDefEqProofs only[aB,seval]
 refine rB (σ:=aA×AV×AV×AV×Int×List AV×IS×List RC) [1000000] [0] (fun x=>PF p M st0 S c m q idx fuel used T x.1 x.2.1 x.2.2.1 x.2.2.2.1 x.2.2.2.2.1 x.2.2.2.2.2.1 x.2.2.2.2.2.2.1 x.2.2.2.2.2.2.2) (fun x=>[(2,.int .i64 0)]) (fun x=>x.1) (fun x=>x.2.2.2.2.2.2.1.chs.length) (by decide +kernel) ⟨(st,qt,qc,qn,mx,nd,i,cs),hI,aR.mk (by simp -implicitDefEqProofs only[aB,seval])⟩ ?_
 clear hI
 rintro⟨st,qt,qc,qn,mx,nd,i,cs⟩ ⟨hs,hr,hx,ht,hn1,hn2⟩
 simp only at hs hr hx ht hn1 hn2
 simp only
 obtain⟨gl,τ,tr,ch,F,nn⟩:=i
 obtain⟨t1,t2,t3,t4,t5⟩:=hs.sto.shape
 obtain⟨n1,n2,n3,n4,n5⟩:=hs.acC.shape
 obtain⟨m1,m2,m3,m4,m5⟩:=hs.acN.shape
 obtain⟨l1,l2,l3,l4,l5,l6⟩:=nA gl
 have DO:prog.underlying 181=some (.slice 224):=by kernel_rfl
 have hlC:=hs.acC.len DO
 rw[aE] at hlC
 simp only at hlC hr hx ht hn1 hn2
 have f8:=hs.cell
 simp only[fZ] at f8
 replace ht:=(aRS p ⟨gl,τ,tr,ch,F,nn⟩).symm.trans ht
 simp only at ht
 cases hr with
 | nil=>
  simp only[List.getLast?_nil] at ht
  subst ht
  simp only[bQ] at hlC
  simp -implicitDefEqProofs only[f8,hlC,n1,tF,↓E5,List.contains,List.elem,pW,gA,sub,v9,↓reduceIte,reduceCtorEq,EK]
  refine aT (fun h=>absurd h (by decide)) (fun h=>?_)
  simp -implicitDefEqProofs only[aB,seval]
  exact⟨st,aM.refl _,rfl,_,_,_,_,_,_,hs⟩
 | @snoc cs ds cR d _ _ C h1 h2=>
  obtain⟨hP,hMl,hnt,htn,htr,hli⟩:=hx.pop
  have e3:(IS.pop ⟨gl,τ,tr,ds++ [d],F,nn⟩ d)=⟨gl,τ.out (tr.drop d.eA),tr.take d.eA,ds,F,d.taken⟩:=by simp only[IS.pop,JT]
  simp only[List.getLast?_append,List.getLast?_singleton,Option.some_or,e3] at ht
  obtain⟨bC,csC,rfl,hbC,aQT,htk⟩:=hs.acC.at (MR _) (i:=ds.length) (e:=pH d) (by simp)
  have hlm:((ds++ [d]).map pH).length=ds.length+1:=by simp
  rw[hlm] at hs f8 hlC
  have hSb:S≠bC:=fun e=>hs.parts.2.2.2.2.1 (by rw[e];simp [dA])
  have hdl:ds.length+1≤524288:=by simp only[eC,bA,bQ] at hn1;omega
  have hw:IntKind.i64.wrap ((ds.length:Int)+1 - 1)=(ds.length:Int):=by rw[wrap64 (by omega) (by omega)];omega
  have aPX:=qN (P:=prog) (b:=bC) (w:=9) (i:=ds.length) wU (len:=ds.length+1) (by omega)
  have DF:=fun(φ:AF) (dd:Nat) (h:φ dd=.int .i64 (ds.length:Int))=>NW (b:=bC) (n:=ds.length+1) (k:=ds.length) wU h (by omega)
  obtain⟨⟨dk,dn,ds',dts⟩,F6,F7,LC,CL,zE⟩:=d
  rw[aE8] at htk
  simp only at htn htr hnt hli hMl hP
  obtain⟨g1,g2,g3,g4,g5,g6⟩:=nA F7
  have aRJ:(csC.drop (ds.length*9)).take 9= [.int .i64 dk,.int .i64 dn,.str ds',.slice (dts.map Tm.av),.int .i64 (F6:Int),dT F7,.slice (LC.map nv),.int .i64 (CL:Int),.int .i64 (zE:Int)]:=htk
  simp -implicitDefEqProofs only[eC,bA,bQ,f8,hlC,aB,seval,EK]
  refine aT (fun h=>?_) (fun h=>absurd h (by simp))
  simp -implicitDefEqProofs only[aS,eC,bA,bQ,f8,hlC,hbC,aQT,aRJ,aPX,DF,hw,g5,aB,↓aW,seval,EK]
  have hs2:=hs.SQ (k:=ds.length) (gl:=gl) (by simp only[eC,bA,bQ];omega) (cs:=fZ c p q idx fuel used F (dT gl) (.mslice bC 0 ds.length 9) qn mx) rfl
  simp only[BM,fZ] at hs2
  generalize aA.aC st S _=V at hs2 ⊢
  have pF:=hs2.cell
  simp only[fZ,vB] at pF hs2
  have htl:=hs2.sto.eA
  refine wX [(0,1),(1,1),(2,1),(3,1),(4,1),(5,1),(6,2)] [0,1,2,3,4,5] _ mixed rfl (g9 pF) ?_
  simp -implicitDefEqProofs only[tV,aB,seval,EK]
  refine(K3 τ tr CL htr c m qt V hs2.sto (by have:=hx.OY;have:=hx.phi;simp only at *;omega)).mono ?_
  rintro _ s4 ⟨rfl,qt4,hS4,hb4,hf4⟩
  have hs4:=hs2.OZ hS4 (fun b o hb e1 e2 _=>hf4 b o hb e1 e2) (fun b hb=>.inl (hb4 b hb))
  have L2:=hs4.cell
  simp only[fZ] at L2
  obtain⟨q1,q2,q3,q4,q5⟩:=hs4.sto.shape
  have aP9:=fun(φ:AF) (dd:Nat) (h:φ dd=.int .i64 (zE:Int))=>aGX zH hs4.acN h (by rw[hs4.ndl];exact htn)
  simp -implicitDefEqProofs only[aB,seval]
  have hAN:=hs4.acN.take (k:=zE) (by rw[hs4.ndl];exact htn) hs4.ndw
  obtain⟨e1',e2',e3',e4',e5'⟩:=hAN.shape
  have hs6:=hs4.aN1 (k:=zE) htn rfl
  simp only[fZ] at hs6
  obtain⟨ρ,Sm,e1,hok,hG,e2⟩:=h1
  simp only at e1 e2
  have DN:=SD hp (show M≤268435456 by omega) hs6 (.mk dk dn ds' dts) F6 F7 LC Sm.g2 Sm.o2 (e1▸Sm.xM hok) hli (by omega) hnt hP hMl (by first | omega | (simp only;omega)) (by first | omega | (simp only;omega))
  simp only[aX] at DN
  have DL:=JE (fun c h=>(hp c h).1) (nn:=zE) (at':=F6) (tr:=tr.take CL) hok hG cR.left F gl Sm C
  rw[←e1,←e2] at DL
  refine wX [(0,1),(1,1),(2,1),(3,1),(4,1),(5,1),(6,1),(7,1),(8,1),(9,1),(10,2)] [0,1,2,3,4,5,6,7,8,9] _ mixed rfl (g9 L2) ?_
  simp -implicitDefEqProofs only[aS,L2,aP9,e4',e5',m1,g1,g2,tV,aB,seval,EK]
  refine DN.mono ?_
  rintro _ s7 ⟨rfl,qt7,qc7,mx7,nd7,hs7⟩
  simp -implicitDefEqProofs only[aB,seval]
  refine aT (fun h=>?_) (fun h=>?_)
  · simp -implicitDefEqProofs only[aB,seval]
    rw[aK h] at ht
    subst ht
    exact⟨s7,aM.refl _,rfl,_,_,_,_,_,hs7⟩
  · rw[aG (by rw[h];simp)] at ht
    cases hrt:gM p cs cR.goal cR.rest cR.σ cR.N cR.left with
    | some s=>
     rw[e2,hrt] at DL
     obtain⟨i2,k1,_⟩:=DL
     rw[←e2] at k1
     rw[k1] at h
     cases h
    | none=>
     rw[e2,hrt] at DL
     obtain⟨F',hF,k1⟩:=DL
     rw[←e2] at k1
     have hX7:=HI (fun c h=>(hp c h).1) (rest:=F7) LC _ hli (at':=F6) (by simp only;exact hnt) (by simp only;exact hMl) hP Sm.g2 Sm.o2 (e1▸Sm.xM hok)
     rw[k1] at hs7 ht hX7
     simp -implicitDefEqProofs only[aB,seval]
     refine⟨(s7,qt7,qc7,_,mx7,nd7,⟨gl,τ.out (tr.drop CL),tr.take CL,ds,F',zE⟩,cs),by simp only;omega,⟨hs7,C.mono hF,hX7,?_,by simp only;omega,by simp only;omega⟩,aR.mk (by simp -implicitDefEqProofs only[aB,seval])⟩
     simpa using ht
theorem NM{p:List Cl}(hp:∀c∈p,fJ c∧c.2.length≤6){B:Nat}(hB:B≤524288){cs:List RC}{goal:Tm}{rest:List RG}{σ:Sub}{N:Nat}(hg:cC σ)(ho:cD (a8 N) σ)(hd:∀n,¬(0≤n∧n<(N:Int))→σ n=none)
 (hgo:a8 N goal) (hr:∀g∈rest,a8 N g.t∧g.t.k=3) (h0:0<N) (hN:N+26≤B) (hrl:rest.length+26≤B) (hcl:cs.length+1≤B) (hcs:∀c∈cs,uP p c∧c.N+26≤B∧c.rest.length+26≤B∧0<c.N) :
 ∀(left:List Nat),(∀i∈left,i<p.length)→left.length≤1048576→∀s,gM p cs goal rest σ N left=some s→nR p B s
 | [],_,_,s,h=>by simp [gM] at h
 | i::l,hle,hll,s,h=>by
  have hil:=hle i (by simp)
  obtain⟨x,hx⟩:∃x,p[i]?=some x:=⟨_,e7 hil⟩
  obtain⟨hX,h6⟩:=hp x (cI hx)
  have hl':∀j∈l,j<p.length:=fun j hj=>hle j (by simp [hj])
  rw[gM.eq_def] at h
  simp only[hx] at h
  split at h
  case isFalse=>exact NM hp hB hg ho hd hgo hr h0 hN hrl hcl hcs l hl' (by simp at hll;omega) s h
  cases h
  have hfr:=hX.fr.1
  have hsh:=hX.cU N
  obtain⟨r,σ',tr,U⟩:=rA (N:=N+mI x) hg (ho.upN (by omega)) (hgo.mono (by omega)) (hsh x.1 (by simp))
  rw[U.eq]
  have S:=U.t8
  refine⟨S.fO,S.ok,fun n hn=>?_,?_,by simp only;omega,by simp only;omega,?_,?_,?_⟩
  · simp only at hn ⊢
    rw[S.aU n (fun h=>hn (S.eW n h))]
    exact hd n (fun h=>hn (by omega))
  · intro g hg'
    simp only[dR,cE] at hg'
    rcases hg' with ⟨t,ht,rfl⟩ | hg'
    · exact⟨hsh t (List.mem_cons_of_mem _ ht),by rw[aGV];exact(hX.body t ht).2⟩
    · exact⟨(hr g hg').1.mono (by simp only;omega),(hr g hg').2⟩
  · simp only[eC,aE];omega
  · simp only
    split
    · omega
    · simp only[eC,bA,bQ];omega
  · simp only
    split
    · exact hcs
    · intro c hc
      rcases dR.1 hc with hc | hc
      · exact hcs c hc
      · simp only[cO,dD,dI] at hc
        subst hc
        exact⟨⟨hg,ho,hd,hgo,hr,hl',by simp only;omega,by simp only;simp at hll;omega⟩,hN,hrl,h0⟩
theorem aTP(p:List Cl)(chs:List RC):eX p chs.length chs=match chs.getLast? with
 | none=>none
 | some c=>match gM p chs.dropLast c.goal c.rest c.σ c.N c.left with
  | some s=>some s
  | none=>eX p chs.dropLast.length chs.dropLast:=by
 cases chs with
 | nil=>rfl
 | cons c l=>
  rw[bA,eX]
  have:(c::l).dropLast.length=l.length:=by simp
  rw[this]
  try rfl
theorem aGD{p:List Cl}(hp:∀c∈p,fJ c∧c.2.length≤6){B:Nat}(hB:B≤524288):∀(n:Nat) (chs:List RC),chs.length≤B→(∀c∈chs,uP p c∧c.N+26≤B∧c.rest.length+26≤B∧0<c.N)→∀s,eX p n chs=some s→nR p B s
 | 0,_,_,_,s,h=>by simp [eX] at h
 | n+1,chs,hl,hc,s,h=>by
  rw[eX] at h
  split at h
  · cases h
  · rename_i c r0
    have hm:=JZ r0
    have hne:chs≠[]:=by rintro rfl;simp at hm
    have hdl:chs.dropLast.length+1=chs.length:=by
     have:=List.length_pos_iff.2 hne
     simp;omega
    have hcd:∀c∈chs.dropLast,uP p c∧c.N+26≤B∧c.rest.length+26≤B∧0<c.N:=fun c h=>hc c (JU _ h)
    obtain⟨k,h1,h2,h3⟩:=hc c hm
    split at h
    · rename_i s' hs
      cases h
      exact NM hp hB k.fO k.ok k.tC k.goal k.rest h3 h1 h2 (by omega) hcd c.left k.left k.aSG s hs
    · exact aGD hp hB n _ (by omega) hcd s h
theorem nR.up{p:List Cl}{B C:Nat}{s:RS}(h:nR p B s)(hC:B≤C):nR p C s:=
 ⟨h.fO,h.ok,h.tC,h.goals,h.pos,by have:=h.hN;omega,by have:=h.gl;omega,by have:=h.nZ;omega,fun c hc=>by
  obtain⟨h1,h2,h3,h4⟩:=h.chs c hc
  exact⟨h1,by omega,by omega,h4⟩⟩
theorem nR.back{p:List Cl}(hp:∀c∈p,fJ c∧c.2.length≤6){B:Nat}(hB:B≤524288){s s':RS}(h:nR p B s)(e:eX p s.chs.length s.chs=some s'):nR p B s':=
 aGD hp hB _ _ h.nZ h.chs s' e
theorem GT{N:Nat}{σ:Sub}(hg:cC σ)(ho:cD (a8 N) σ){t:Tm}(ht:a8 N t)(hf:dZ (t.aH (rs σ))=true):a8 N (t.aH (rs σ)):=by
 obtain⟨rk,B,G⟩:=hg.rs
 unfold dZ at hf
 simp only[cL,bM] at hf
 exact⟨ht.1.aH fun v hv=>G.kD ho.kD v (ht.1.2.2 v hv).1 (ht.1.2.2 v hv).2,hf.2⟩
theorem nR.step{p:List Cl}(hp:∀c∈p,fJ c∧c.2.length≤6)(hpl:p.length≤1048576){B:Nat}(hB:B+26≤524288){cnd:Tm→List Nat→List Nat}(hc:∀t l,(∀i∈cnd t l,i∈l)∧(cnd t l).length≤l.length){s s':RS}{g:RG}{rest:List RG}(hgs:s.goals=g::rest)(h:nR p B s)
 (e:iJ p cnd s g rest=.go s'):nR p (B+26) s':=by
 have hgm:g∈s.goals:=by rw[hgs];simp
 have hrm:∀x∈rest,x∈s.goals:=fun x hx=>by rw[hgs];simp [hx]
 have hgl:=h.gl
 rw[hgs,bA] at hgl
 have hU:=h.up (C:=B+26) (by omega)
 unfold iJ at e
 split at e
 · cases e
 rename_i fK
 have L9:dZ (g.t.aH (rs s.σ))=true:=by simpa using fK
 have hok:=GT h.fO h.ok (h.goals g hgm).1 L9
 generalize g.t.aH (rs s.σ)=t at *
 split at e
 · cases e
   exact⟨hU.fO,hU.ok,hU.tC,fun x hx=>hU.goals x (hrm x hx),hU.pos,hU.hN,by simp only;omega,by simp only[dX];have:=hU.nZ;omega,fun c hc=>hU.chs c (mS hc)⟩
 split at e
 · split at e
   · cases e
     have S:=H8 h.fO h.ok t.s t.ts fun x hx=>by
      obtain⟨k,n,s',ts⟩:=t
      by_cases hk:k=1
      · obtain⟨_,_,_,h2⟩:=(show cB s.N (.mk 1 n s' ts) from hk▸hok.1).var
        simp only[Tm.ts] at hx
        rw[h2] at hx;cases hx
      · exact pL _ (.mk k n s' ts) hk hok x hx
     exact⟨S.fO,S.ok,fun n hn=>by simp only at hn ⊢;rw[S.aU n (fun h=>hn (S.eW n h))];exact hU.tC n hn,fun x hx=>hU.goals x (hrm x hx),hU.pos,hU.hN,by simp only;omega,hU.nZ,hU.chs⟩
   · split at e<;>cases e
 split at e
 · cases e
 split at e
 case h_2=>cases e
 rename_i s2 hs
 cases e
 obtain⟨c1,c2⟩:=hc t (eO p t)
 have hfl:(eO p t).length≤p.length:=by rw[GV];exact GW p t p.length
 refine NM hp (by omega) h.fO h.ok h.tC hok (fun x hx=>h.goals x (hrm x hx)) h.pos (by have:=h.hN;omega) (by omega) (by have:=h.nZ;omega) hU.chs _ (fun i hi=>?_) (by omega) s' hs
 have:=c1 i hi
 unfold eO at this
 have:=(List.mem_filter.1 this).1
 exact uM.1 this
def lR(n:Nat)(l:List RG):Prop:=l.Pairwise (fun a b=>b.aU≤a.aU)∧∀g∈l,g.aU≤n
theorem lR.up{n m:Nat}{l:List RG}(h:lR n l)(hm:n≤m):lR m l:=⟨h.1,fun g hg=>wH (h.2 g hg) hm⟩
theorem lR.tail{n:Nat}{g:RG}{l:List RG}(h:lR n (g::l)):lR n l∧lR g.aU l:=by
 obtain⟨h1,h2⟩:=h
 rw[List.pairwise_cons] at h1
 exact⟨⟨h1.2,fun x hx=>h2 x (by simp [hx])⟩,h1.2,h1.1⟩
theorem lR.body{n:Nat}{l:List RG}(h:lR n l)(f:Tm→Tm)(bd:List Tm):lR n (bd.map (fun t=>(⟨f t,n⟩:RG))++l):=by
 refine⟨List.pairwise_append.2 ⟨?_,h.1,fun a ha b hb=>?_⟩,fun g hg=>?_⟩
 · rw[List.pairwise_map]
   exact List.pairwise_of_forall fun _ _=>cT _
 · obtain⟨t,_,rfl⟩:=cE.1 ha
   exact h.2 b hb
 · rcases dR.1 hg with hg | hg
   · obtain⟨t,_,rfl⟩:=cE.1 hg
     exact cT _
   · exact h.2 g hg
structure wI (s:RS):Prop where
 goals:lR s.chs.length s.goals
 chs:∀i c,s.chs[i]?=some c→lR i c.rest
theorem NK{p:List Cl}{cs:List RC}{goal:Tm}{rest:List RG}{σ:Sub}{N:Nat}(hr:lR cs.length rest)(hc:∀i c,cs[i]?=some c→lR i c.rest) :
 ∀(left:List Nat) s,gM p cs goal rest σ N left=some s→wI s
 | [],s,h=>by simp [gM] at h
 | i::l,s,h=>by
  rw[gM.eq_def] at h
  simp only at h
  split at h
  · cases h
  rename_i x hx
  split at h
  case isFalse=>exact NK hr hc l s h
  cases h
  have hb:=hr.body (cU N) x.2
  refine⟨?_,?_⟩
  · simp only
    split
    · exact hb
    · exact hb.up (by simp)
  · simp only
    intro j c hj
    split at hj
    · exact hc j c hj
    · rw[List.getElem?_append] at hj
      split at hj
      · exact hc j c hj
      · rename_i hlt
        have hj0:j - cs.length=0:=by
         have:=(eS.1 hj).1
         simp at this;omega
        rw[hj0] at hj
        simp only[JY,Option.some.injEq] at hj
        subst hj
        exact hr.up (by omega)
theorem aGB{p:List Cl}:∀(n:Nat) (chs:List RC),(∀i c,chs[i]?=some c→lR i c.rest)→∀s,eX p n chs=some s→wI s
 | 0,_,_,s,h=>by simp [eX] at h
 | n+1,chs,hc,s,h=>by
  rw[eX] at h
  split at h
  · cases h
  · rename_i c r0
    have hd:∀i c,chs.dropLast[i]?=some c→lR i c.rest:=fun i c hi=>hc i c (by
     rw[List.dropLast_eq_take,List.getElem?_take] at hi
     split at hi
     · exact hi
     · cases hi)
    rw[List.getLast?_eq_getElem?] at r0
    have hk:=hc _ _ r0
    split at h
    · rename_i s' hs
      cases h
      exact NK (by rw[List.length_dropLast];exact hk) hd _ s hs
    · exact aGB n _ hd s h
theorem wI.step{p:List Cl}{cnd:Tm→List Nat→List Nat}{s s':RS}{g:RG}{rest:List RG}(hgs:s.goals=g::rest)(h:wI s)(e:iJ p cnd s g rest=.go s'):wI s':=by
 have hg:=h.goals
 rw[hgs] at hg
 obtain⟨h1,h2⟩:=hg.tail
 have h3:=hg.2 g (by simp)
 unfold iJ at e
 split at e
 · cases e
 split at e
 · cases e
   refine⟨?_,fun i c hi=>?_⟩
   · simp only[dX]
     exact h2.up (by omega)
   · simp only[List.getElem?_take] at hi
     split at hi
     · exact h.chs i c hi
     · cases hi
 split at e
 · split at e
   · cases e
     exact⟨h1,h.chs⟩
   · split at e<;>cases e
 split at e
 · cases e
 split at e
 case h_2=>cases e
 rename_i s2 hs
 cases e
 exact NK h1 h.chs _ s' hs
def yL(s:RS):Prop:=26≤s.N∧∀c∈s.chs,26≤c.N
theorem NL{p:List Cl}{cs:List RC}{goal:Tm}{rest:List RG}{σ:Sub}{N:Nat}(hN:26≤N)(hc:∀c∈cs,26≤c.N) :
 ∀(left:List Nat) s,gM p cs goal rest σ N left=some s→yL s
 | [],s,h=>by simp [gM] at h
 | i::l,s,h=>by
  rw[gM.eq_def] at h
  simp only at h
  split at h
  · cases h
  rename_i x hx
  split at h
  case isFalse=>exact NL hN hc l s h
  cases h
  refine⟨by simp only;omega,?_⟩
  simp only
  split
  · exact hc
  · intro c h
    rcases dR.1 h with h | h
    · exact hc c h
    · simp only[cO,dD,dI] at h
      subst h;exact hN
theorem aGC{p:List Cl}:∀(n:Nat) (chs:List RC),(∀c∈chs,26≤c.N)→∀s,eX p n chs=some s→yL s
 | 0,_,_,s,h=>by simp [eX] at h
 | n+1,chs,hc,s,h=>by
  rw[eX] at h
  split at h
  · cases h
  · rename_i c r0
    have hd:∀c∈chs.dropLast,26≤c.N:=fun c h=>hc c (JU _ h)
    split at h
    · rename_i s' hs
      cases h
      exact NL (hc c (JZ r0)) hd _ s hs
    · exact aGC n _ hd s h
theorem yL.step{p:List Cl}{cnd:Tm→List Nat→List Nat}{s s':RS}{g:RG}{rest:List RG}(h:yL s)(e:iJ p cnd s g rest=.go s'):yL s':=by
 unfold iJ at e
 split at e
 · cases e
 split at e
 · cases e
   exact⟨h.1,fun c hc=>h.2 c (mS hc)⟩
 split at e
 · split at e
   · cases e
     exact h
   · split at e<;>cases e
 split at e
 · cases e
 split at e
 case h_2=>cases e
 rename_i s2 hs
 cases e
 exact NL h.1 h.2 _ s' hs
structure kJ (p:List Cl) (B:Nat) (s:RS):Prop where
 a:nR p B s
 k:wI s
 l:yL s
theorem kJ.step{p:List Cl}(hp:∀c∈p,fJ c∧c.2.length≤6)(hpl:p.length≤1048576){B:Nat}(hB:B+26≤524288){cnd:Tm→List Nat→List Nat}(hc:∀t l,(∀i∈cnd t l,i∈l)∧(cnd t l).length≤l.length){s s':RS}{g:RG}{rest:List RG}(hgs:s.goals=g::rest)(h:kJ p B s)
 (e:iJ p cnd s g rest=.go s'):kJ p (B+26) s':=⟨h.a.step hp hpl hB hc hgs e,h.k.step hgs e,h.l.step e⟩
theorem kJ.back{p:List Cl}(hp:∀c∈p,fJ c∧c.2.length≤6){B:Nat}(hB:B≤524288){s s':RS}(h:kJ p B s)(e:eX p s.chs.length s.chs=some s'):kJ p B s':=
 ⟨h.a.back hp hB e,aGB _ _ h.k.chs s' e,aGC _ _ h.l.2 s' e⟩
theorem kJ.up{p:List Cl}{B C:Nat}{s:RS}(h:kJ p B s)(hC:B≤C):kJ p C s:=⟨h.a.up hC,h.k,h.l⟩
theorem kJ.start{p:List Cl}{q:List Tm}(hq:∀t∈q,a8 26 t∧t.k=3)(h6:q.length≤6):kJ p 26 (kG q):=by
 refine⟨⟨cC.none,fun n u h=>(by cases h),fun n _=>rfl,?_,(by show 0<26;omega),cT _,?_,mV _,fun c hc=>(by cases hc)⟩,⟨⟨?_,?_⟩,fun i c hi=>(by cases hi)⟩,⟨cT _,fun c hc=>(by cases hc)⟩⟩
 · intro g hg
   simp only[kG,cE] at hg
   obtain⟨t,ht,rfl⟩:=hg
   exact hq t ht
 · simp only[kG,aE];omega
 · simp only[kG,List.pairwise_map]
   exact List.pairwise_of_forall fun _ _=>cT _
 · intro g hg
   simp only[kG,cE] at hg
   obtain⟨t,ht,rfl⟩:=hg
   exact mV _
end Go.AW
namespace Go.AW
theorem IX.node{p:List Cl}{M:Nat}{i:IS}(h:IX p M i):IX p M { i with nn:=i.nn+1 }:=
 ⟨h.tnd,h.tin,h.phi,fun c hc=>by obtain⟨h1,h2,h3,h4⟩:=h.ch c hc;exact⟨h1,by simp only;omega,h3,h4⟩,h.mono⟩
theorem IX.more{p:List Cl}{M:Nat}{i:IS}{σ':Sub}{add:List Int}{gl:List IG}(h:IX p M i)(S:kX (i.fresh:Int) i.σ σ' add):IX p M { i with goals:=gl,σ:=σ',tr:=i.tr++add }:=by
 refine⟨jO.2 ⟨h.tnd,S.nodup,fun a ha b hb e=>?_⟩,fun n hn=>?_,h.phi,fun c hc=>?_,h.mono⟩
 · subst e
   exact(h.tin a ha).2 (S.new a hb).1
 · simp only[dR] at hn
   rcases hn with hn | hn
   · have h1:=h.tin n hn
     have hna:n∉add:=fun ha=>h1.2 (S.new n ha).1
     exact⟨h1.1,by simp only;rw[S.aU n hna];exact h1.2⟩
   · exact⟨S.eW n hn,(S.new n hn).2⟩
 · obtain⟨h1,h2,h3,h4⟩:=h.ch c hc
   exact⟨h1,h2,by simp only[eC];omega,h4⟩
theorem IX.cut{p:List Cl}{M:Nat}{i:IS}{gl:List IG}(h:IX p M i)(k:Nat):IX p M { i with goals:=gl,chs:=i.chs.take k }:=
 ⟨h.tnd,h.tin,by have:=aFL i.chs k;have:=h.phi;simp only;omega,fun c hc=>h.ch c (mS hc),h.mono.sublist (List.take_sublist _ _)⟩
def J4(p:List Cl)(M:Nat):uJ→Prop
 | .go s=>IX p M s
 | .fail s=>IX p M s
 | .stop _=>True
theorem aRV{p:List Cl}(hp:∀c∈p,fJ c)(hpl:p.length≤20){cnd:Tm→List Nat→List Nat}(hc:∀t l,(∀i∈cnd t l,i∈l)∧(cnd t l).length≤l.length){M:Nat}{i:IS}{g:IG}{rest:List IG}(h:IX p M i)(hg:cC i.σ)(ho:cD (a8 i.fresh) i.σ)(hgo:a8 i.fresh g.t) :
 J4 p (M+520) (j9 p cnd i g rest):=by
 have hU:=h.up (M':=M+520) (by omega)
 unfold j9
 split
 · trivial
 rename_i fK
 have L9:dZ (g.t.aH (rs i.σ))=true:=by simpa using fK
 have hok:=GT hg ho hgo L9
 generalize g.t.aH (rs i.σ)=t at *
 split
 · exact(hU.cut (gl:=rest) g.cut).node
 split
 · have S:=H8 hg ho t.s t.ts fun x hx=>by
    obtain⟨k,n,s',ts⟩:=t
    by_cases hk:k=1
    · obtain⟨_,_,_,h2⟩:=(show cB i.fresh (.mk 1 n s' ts) from hk▸hok.1).var
      simp only[Tm.ts] at hx
      rw[h2] at hx;cases hx
    · exact pL _ (.mk k n s' ts) hk hok x hx
   split
   · exact(hU.more (gl:=rest) S).node
   · split
     · exact(hU.more (gl:=i.goals) S).node
     · trivial
 split
 · trivial
 obtain⟨c1,c2⟩:=hc t (eO p t)
 have hfl:(eO p t).length≤p.length:=by
  have:=List.length_filter_le (fun j=>match p[j]? with | some c=>DG c t | none=>false) (List.range p.length)
  rw[List.length_range] at this
  exact this
 have hr:∀x∈cnd t (eO p t),x<p.length:=fun x hx=>by
  have:=c1 x hx
  unfold eO at this
  exact uM.1 (List.mem_filter.1 this).1
 have hT:=HI hp (rest:=rest) (cnd t (eO p t)) { i with nn:=i.nn+1 } hr (at':=i.nn) (by simp only;omega) (by have:=h.phi;simp only;omega) hU.node hg ho hok
 split
 · exact hT
 · exact hT
end Go.AW
namespace Go.AW
open Go.Proofs.Tryz
theorem aE7{p:List Cl}{goal:Tm}{at':Nat}{rest:List IG}:∀(l:List Nat) (s:IS),(fL p goal at' rest l s).1=false→∃F,(fL p goal at' rest l s).2= { s with fresh:=F }
 | [],s,_=>⟨s.fresh,by rw[fL.eq_def]⟩
 | j::l,s,h=>by
  rw[fL.eq_def] at h ⊢
  simp only at h ⊢
  split at h
  · exact⟨s.fresh,rfl⟩
  · split at h
    · cases h
    · rename_i hu
      rw[aG hu]
      obtain⟨F,e⟩:=aE7 l { s with fresh:=s.fresh+26 } h
      exact⟨F,e⟩
theorem HJ{p:List Cl}{goal:Tm}{at':Nat}{rest:List IG}:∀(l:List Nat) (s:IS),(fL p goal at' rest l s).2.nn=s.nn
 | [],s=>by rw[fL.eq_def]
 | j::l,s=>by
  rw[fL.eq_def]
  simp only
  split
  · rfl
  · split
    · rfl
    · exact HJ l { s with fresh:=s.fresh+26 }
theorem Rl.facts{s:RS}{i:IS}(h:Rl s i):cC i.σ∧cD (a8 i.fresh) i.σ∧i.chs.length=s.chs.length∧i.goals.length=s.goals.length:=by
 obtain⟨ρ,S,G,C⟩:=h
 have:=tA List.length G.1
 simp only[aE] at this
 exact⟨S.g2,S.o2,C.len,this⟩
theorem Rl.goal{s:RS}{i:IS}{h:IG}{hs:List IG}(hR:Rl s i)(hh:i.goals=h::hs):a8 i.fresh h.t∧h.t.k=3∧∃g gs,s.goals=g::gs∧h.cut=g.aU:=by
 obtain⟨ρ,S,G,C⟩:=hR
 rw[hh] at G
 cases hg:s.goals with
 | nil=>rw[hg] at G;exact absurd G.1 (by simp)
 | cons g gs=>
  rw[hg] at G
  have he:=(sR G.1).1
  simp only[Prod.mk.injEq] at he
  obtain⟨e1,e2⟩:=he
  obtain⟨h1,h2⟩:=G.2 g (by simp)
  rw[e1]
  exact⟨S.xM h1,by rw[vR];exact h2,g,gs,rfl,e2⟩
section
variable {p:List Cl} (hp:∀c∈p,fJ c) {cnd:Tm→List Nat→List Nat} (hc:∀(ρ:Int→Int) (t:Tm) (l:List Nat),cnd (bH ρ t) l=cnd t l)
include hp hc
theorem Rl.step{s:RS}{i:IS}{h:IG}{hs:List IG}(hR:Rl s i)(hh:i.goals=h::hs):∃g gs,s.goals=g::gs∧match j9 p cnd i h hs with
 | .stop e=>iJ p cnd s g gs=.stop e
 | .go i'=>∃s',iJ p cnd s g gs=.go s'∧Rl s' i'
 | .fail i'=>iJ p cnd s g gs=.fail∧gH i'.fresh s.chs i'.chs i'.σ i'.tr:=by
 obtain⟨_,_,g,gs,hg,_⟩:=hR.goal hh
 obtain⟨h',hs',e,k⟩:=aG6 hp hc hR hg
 rw[hh] at e
 cases e
 refine⟨g,gs,hg,?_⟩
 cases hr:iJ p cnd s g gs with
 | stop e=>rw[hr] at k;simp only at k;rw[k]
 | go s'=>rw[hr] at k;simp only at k;obtain⟨i',e,k⟩:=k;rw[e];exact⟨s',rfl,k⟩
 | fail=>rw[hr] at k;simp only at k;obtain⟨i',e,k⟩:=k;rw[e];exact⟨rfl,k⟩
end
theorem aPD(p:List Cl)(t:Tm):(eO p t).length≤p.length:=by
 have:=List.length_filter_le (fun j=>match p[j]? with | some c=>DG c t | none=>false) (List.range p.length)
 rw[List.length_range] at this
 exact this
theorem aPE(p:List Cl)(t:Tm):∀x∈eO p t,x<p.length:=fun x hx=>by
 unfold eO at hx
 exact uM.1 (List.mem_filter.1 hx).1
theorem aE6{p:List Cl}{N:Nat}{i':IS}:∀(n:Nat) (i:IS),(∀c∈i.chs,c.taken≤N)→fT p n i=some i'→i'.nn≤N
 | 0,i,_,e=>by simp [fT] at e
 | n+1,i,h,e=>by
  rw[fT] at e
  split at e
  · cases e
  · rename_i c hl
    split at e
    · cases e
      rw[HJ]
      exact h c (JZ hl)
    · rename_i hf
      obtain⟨F,e2⟩:=aE7 _ _ (by simpa using hf)
      rw[e2] at e
      exact aE6 n _ (fun c hc=>h c (JU _ hc)) e
def J3(k:Nat):uJ→Prop
 | .go s=>s.nn=k
 | .fail s=>s.nn=k
 | .stop _=>True
theorem aRW{p:List Cl}{cnd:Tm→List Nat→List Nat}{i:IS}{g:IG}{rest:List IG}:J3 (i.nn+1) (j9 p cnd i g rest):=by
 unfold j9
 split
 · trivial
 split
 · exact rfl
 split
 · split
   · exact rfl
   · split
     · exact rfl
     · trivial
 split
 · trivial
 split
 · exact HJ _ _
 · exact HJ _ _
def PP:uJ→Prop
 | .stop e=>e≠-1
 | _=>True
theorem aRX{p:List Cl}{cnd:Tm→List Nat→List Nat}{i:IS}{g:IG}{rest:List IG}:PP (j9 p cnd i g rest):=by
 unfold j9
 split
 · exact(by decide:(3:Int)≠-1)
 split
 · trivial
 split
 · split
   · trivial
   · split
     · trivial
     · show oA _≠-1
       unfold oA
       split
       · decide
       · split
         · decide
         · split<;>decide
 split
 · exact(by decide:(8:Int)≠-1)
 split<;>trivial
structure RI (p:List Cl) (B M k:Nat) (s:RS) (i:IS):Prop where
 r:Rl s i
 a:kJ p B s
 x:IX p M i
 n:i.nn≤k
theorem RI.nZ{p:List Cl}{B M k:Nat}{s:RS}{i:IS}(h:RI p B M k s i):i.chs.length≤B:=by rw[h.r.facts.2.2.1];exact h.a.a.nZ
theorem RI.cr{p:List Cl}{B M k:Nat}{s:RS}{i:IS}(h:RI p B M k s i):gH i.fresh s.chs i.chs i.σ i.tr:=by obtain⟨_,_,_,C⟩:=h.r;exact C
theorem RI.cut{p:List Cl}{B M k:Nat}{s:RS}{i:IS}{g:IG}{gs:List IG}(h:RI p B M k s i)(hg:i.goals=g::gs):g.cut≤i.chs.length:=by
 obtain⟨_,_,g',gs',e,e2⟩:=h.r.goal hg
 rw[e2,h.r.facts.2.2.1]
 have:=h.a.k.goals.2 g' (by rw[e];simp)
 exact this
section
variable {p:List Cl} (hp:∀c∈p,fJ c∧c.2.length≤6) (hpl:p.length≤20) {cnd:Tm→List Nat→List Nat} (hc:∀(ρ:Int→Int) (t:Tm) (l:List Nat),cnd (bH ρ t) l=cnd t l) (hd:∀t l,(∀i∈cnd t l,i∈l)∧(cnd t l).length≤l.length)
include hp
theorem RI.QQ{B M k:Nat}(hB:B≤524288){s:RS}{i i':IS}(ha:kJ p B s)(hC:gH i.fresh s.chs i.chs i.σ i.tr)(hx:IX p M i)(hn:i.nn≤k)(e:fT p i.chs.length i=some i'):∃s',RI p B M k s' i':=by
 have hp1:=fun c h=>(hp c h).1
 have key:=KP hp1 i.chs.length s.chs i hC
 cases hr:eX p i.chs.length s.chs with
 | none=>rw[hr] at key;simp only at key;rw[key] at e;cases e
 | some s'=>
  rw[hr] at key
  obtain⟨i2,e2,R⟩:=key
  rw[e2] at e
  cases e
  rw[hC.len] at hr
  exact⟨s',R,ha.back hp hB hr,aE5 hp1 _ s.chs i hC hx i' e2,aE6 _ i (fun c hc=>wH (hx.ch c hc).2.1 hn) e2⟩
theorem RI.back{B M k:Nat}(hB:B≤524288){s:RS}{i i':IS}(h:RI p B M k s i)(e:fT p i.chs.length i=some i'):∃s',RI p B M k s' i':=
 RI.QQ hp hB h.a h.cr h.x h.n e
include hpl hc hd
theorem RI.step{B M k:Nat}(hB:B+26≤524288){s:RS}{i:IS}{g:IG}{gs:List IG}(h:RI p B M k s i)(hg:i.goals=g::gs):match j9 p cnd i g gs with
 | .stop e=>True
 | .go i'=>∃s',RI p (B+26) (M+520) (k+1) s' i'
 | .fail i'=>gH i'.fresh s.chs i'.chs i'.σ i'.tr∧IX p (M+520) i'∧i'.nn≤k+1∧∀i2,fT p i'.chs.length i'=some i2→∃s',RI p (B+26) (M+520) (k+1) s' i2:=by
 have hp1:=fun c h=>(hp c h).1
 have hn:=aRW (p:=p) (cnd:=cnd) (i:=i) (g:=g) (rest:=gs)
 have hx:=aRV hp1 hpl hd (rest:=gs) h.x h.r.facts.1 h.r.facts.2.1 (h.r.goal hg).1
 obtain⟨g',gs',e,k⟩:=h.r.step hp1 hc hg
 have hk:=h.n
 cases hs:j9 p cnd i g gs with
 | stop e=>trivial
 | go i'=>
  rw[hs] at hn hx k
  simp only[J3,J4] at hn hx k
  obtain⟨s',e1,R⟩:=k
  exact⟨s',R,h.a.step hp (by omega) hB hd e e1,hx,by omega⟩
 | fail i'=>
  rw[hs] at hn hx k
  simp only[J3,J4] at hn hx k
  obtain⟨e1,C⟩:=k
  exact⟨C,hx,by omega,fun i2 e2=>RI.QQ hp hB (h.a.up (by omega)) C hx (by omega) e2⟩
end
theorem RI.start{p:List Cl}{q:List Tm}(hq:∀t∈q,a8 26 t∧t.k=3)(h6:q.length≤6):RI p 26 26 0 (kG q) (mM q):=by
 refine⟨aG5 hq,kJ.start hq h6,⟨lT,fun n hn=>(by cases hn),(by show 26+26*nI []≤26;simp [nI]),fun c hc=>(by cases hc),List.Pairwise.nil⟩,cT _⟩
theorem aRU{p:List Cl}{cnd:Tm→List Nat→List Nat}{vars:List Int}{most fuel:Nat}{s:IS}(hg:s.goals= []):hH p cnd vars most fuel s=if most=0 then([],1) else match g7 s.σ vars with
 | none=>([],3)
 | some a=>match fT p s.chs.length s with
  | none=>([a],0)
  | some s'=>(a::(hH p cnd vars (most - 1) fuel s').1,(hH p cnd vars (most - 1) fuel s').2):=by
 rw[hH.eq_def,hg]
 simp only
 split<;>rfl
theorem aRT{p:List Cl}{cnd:Tm→List Nat→List Nat}{vars:List Int}{most fuel:Nat}{s:IS}{g:IG}{rest:List IG}(hg:s.goals=g::rest):hH p cnd vars most fuel s=if fuel=0 then([],2) else match j9 p cnd s g rest with
 | .stop e=>([],e)
 | .go s'=>hH p cnd vars most (fuel - 1) s'
 | .fail s'=>match fT p s'.chs.length s' with
  | none=>([],0)
  | some s''=>hH p cnd vars most (fuel - 1) s'':=by
 rw[hH.eq_def,hg]
 simp only
 split<;>rfl
section
variable {st0 st:aA} {S c m:Nat} {qt qc qn:AV} {p:List Cl} {q:List Tm} {idx:Bool} {fuel used mx:Int} {nd:List AV} {i:IS}
theorem cW.acc{b:Nat}{l:List AV}(h:cW st0 st S c m qt qc qn p q idx fuel used mx nd i)(hb:l≠[]→st b=none):cW (bS st0 b l) (bS st b l) S c m qt qc qn p q idx fuel used mx nd i:=by
 cases l with
 | nil=>exact h
 | cons x l=>
  have hn:=hb (by simp)
  have hne:∀a∈gU S c m qt qc qn,bS st b (x::l) a=st a:=fun a ha=>nV (by rintro rfl;exact h.held a ha hn)
  have aQ2:∀a∈gU S c m qt qc qn,bS st0 b (x::l) a=st0 a:=fun a ha=>nV (by rintro rfl;exact h.held a ha hn)
  refine⟨by rw[hne S (dM.2 (.inl rfl))];exact h.cell,h.sto.AE (hne c (dM.2 (.inr (.inl rfl)))) (hne m (dM.2 (.inr (.inr (.inl rfl))))) (fun b hb=>hne b (dM.2 (.inr (.inr (.inr (.inl hb)))))),
   h.acC.aU fun b hb=>hne b (dM.2 (.inr (.inr (.inr (.inr (.inl hb)))))),h.acN.aU fun b hb=>hne b (dM.2 (.inr (.inr (.inr (.inr (.inr hb)))))),h.ndl,h.ndw,h.dis,fun a ha=>by rw[aQ2 a ha];exact h.new a ha,fun a o ha=>?_⟩
  by_cases e:a=b
  · subst e
    rw[jR (by simp),aA.aL] at ha ⊢
    exact ha
  · rw[nV e] at ha ⊢
    exact h.aU a o ha
theorem cW.xW{b:Nat}{l:List AV}{st2:aA}(h:cW (bS st0 b l) st2 S c m qt qc qn p q idx fuel used mx nd i)(hb:l≠[]→st0 b=none):∃s,st2=bS s b l∧(l≠[]→s b=none)∧cW st0 s S c m qt qc qn p q idx fuel used mx nd i:=by
 cases l with
 | nil=>exact⟨st2,rfl,fun h=>absurd rfl h,h⟩
 | cons x l=>
  have hn:=hb (by simp)
  have h2:st2 b=some (.cells ((x::l).flatMap AV.cells)):=h.aU b _ (by rw[jR (by simp),aA.aL])
  have hbn:b∉gU S c m qt qc qn:=fun hm=>by
   have:=h.new b hm
   rw[jR (by simp),aA.aL] at this
   cases this
  obtain⟨s',hs'⟩:∃s':aA,∀y,s' y=if y=b then none else st2 y:=⟨_,fun _=>rfl⟩
  have hne:∀a∈gU S c m qt qc qn,s' a=st2 a:=fun a ha=>by rw[hs',aG (by rintro rfl;exact hbn ha)]
  refine⟨s',?_,fun _=>by rw[hs',aK rfl],?_⟩
  · funext y
    by_cases e:y=b
    · subst e;rw[jR (by simp),aA.aL,h2]
    · rw[nV e,hs',aG e]
  · refine⟨by rw[hne S (dM.2 (.inl rfl))];exact h.cell,h.sto.AE (hne c (dM.2 (.inr (.inl rfl)))) (hne m (dM.2 (.inr (.inr (.inl rfl))))) (fun b hb=>hne b (dM.2 (.inr (.inr (.inr (.inl hb)))))),
     h.acC.aU fun b hb=>hne b (dM.2 (.inr (.inr (.inr (.inr (.inl hb)))))),h.acN.aU fun b hb=>hne b (dM.2 (.inr (.inr (.inr (.inr (.inr hb)))))),h.ndl,h.ndw,h.dis,fun a ha=>?_,fun a o ha=>?_⟩
    · have:=h.new a ha
      rwa [nV (by rintro rfl;exact hbn ha)] at this
    · have e:a≠b:=by rintro rfl;rw[hn] at ha;cases ha
      rw[hs',aG e]
      exact h.aU a o (by rw[nV e];exact ha)
theorem GJ{st:aA}{b:Nat}{o:AO}(h:st b=none):eQ st (st.aC b o):=fun x p hx=>by
 rw[aA.aF _ _ (by rintro rfl;rw[h] at hx;cases hx)];exact hx
theorem JF{S b:Nat}(hne:S≠b)(X Y:AO):∃s0:aA,s0 S=some X∧s0 b=some Y∧∀st:aA,st S=some X→st b=some Y→eQ s0 st:=by
 refine⟨(one S X).aC b Y,by rw[aA.aF _ _ hne];exact tV,aA.aL _ _ _,fun st h1 h2 x p hx=>?_⟩
 by_cases e:x=b
 · subst e;rw[aA.aL] at hx;cases hx;exact h2
 · rw[aA.aF _ _ e] at hx;exact g9 h1 x p hx
theorem cW.box{b:Nat}{o:AO}(h:cW st0 st S c m qt qc qn p q idx fuel used mx nd i)(hn:st b=none):cW (st0.aC b o) (st.aC b o) S c m qt qc qn p q idx fuel used mx nd i:=by
 have hne:∀(s:aA) a,a∈gU S c m qt qc qn→(s.aC b o) a=s a:=fun s a ha=>aA.aF _ _ (by rintro rfl;exact h.held a ha hn)
 refine⟨by rw[hne _ S (dM.2 (.inl rfl))];exact h.cell,h.sto.AE (hne _ c (dM.2 (.inr (.inl rfl)))) (hne _ m (dM.2 (.inr (.inr (.inl rfl))))) (fun b hb=>hne _ b (dM.2 (.inr (.inr (.inr (.inl hb)))))),
  h.acC.aU fun b hb=>hne _ b (dM.2 (.inr (.inr (.inr (.inr (.inl hb)))))),h.acN.aU fun b hb=>hne _ b (dM.2 (.inr (.inr (.inr (.inr (.inr hb)))))),h.ndl,h.ndw,h.dis,fun a ha=>by rw[hne _ a ha];exact h.new a ha,fun a o' ha=>?_⟩
 by_cases e:a=b
 · subst e
   rw[aA.aL] at ha ⊢
   exact ha
 · rw[aA.aF _ _ e] at ha ⊢
   exact h.aU a o' ha
theorem cW.unbox{b:Nat}{o:AO}(h:cW (st0.aC b o) st S c m qt qc qn p q idx fuel used mx nd i)(hn:st0 b=none):cW st0 st S c m qt qc qn p q idx fuel used mx nd i:=by
 refine⟨h.cell,h.sto,h.acC,h.acN,h.ndl,h.ndw,h.dis,fun a ha=>?_,fun a o' ha=>?_⟩
 · have:=h.new a ha
   by_cases e:a=b
   · subst e;exact hn
   · rwa [aA.aF _ _ e] at this
 · have e:a≠b:=by rintro rfl;rw[hn] at ha;cases ha
   exact h.aU a o' (by rw[aA.aF _ _ e];exact ha)
end
def FA(st0 st':aA)(S c m:Nat)(p:List Cl)(q:List Tm)(idx:Bool)(fuel used:Int)(r:AV):uJ→Prop
 | .go i'=>r=.int .i64 (-1)∧∃qt qc qn mx nd,cW st0 st' S c m qt qc qn p q idx fuel used mx nd i'
 | .fail i'=>PG st0 st' S c m p q idx fuel used r (fT p i'.chs.length i')
 | .stop e=>r=.int .i64 e∧∃qt qc qn mx nd i',cW st0 st' S c m qt qc qn p q idx fuel used mx nd i'
def JR(p:List Cl)(idx:Bool)(cnd:Tm→List Nat→List Nat):Prop:=
 (idx=false→cnd=fun _ l=>l)
theorem aR7(yn:Int)(ys:ByteArray)(yts:List Tm)(st:aA):aD prog 184 [(Tm.mk 3 yn ys yts).av] st (fun r st'=>r=.bool (pC (.mk 3 yn ys yts))∧st'=st):=by
 have h:=RA 3 yn ys yts st
 have e:(decide ((3:Int)=3)&&decide ((yts.length:Int)=0)&&decide (ys=⟨#[33]⟩))=pC (.mk 3 yn ys yts):=by
  rw[wC]
  simp [pC,Tm.k,Tm.s,Tm.ts,and_comm]
  exact fun _=>⟨fun h=>tB h,fun h=>of_decide_eq_true h⟩
 rw[e] at h
 exact h
theorem aR6(yn:Int)(ys:ByteArray)(yts:List Tm)(st:aA):aD prog 185 [(Tm.mk 3 yn ys yts).av] st (fun r st'=>r=.bool (isBuiltin ys (yts.length:Int))∧st'=st):=by
 have h:=KT 3 yn ys yts st
 rw[show(decide ((3:Int)=3)&&isBuiltin ys (yts.length:Int))=isBuiltin ys (yts.length:Int) from rfl] at h
 exact h
abbrev lN:=zi tI_3 (zi zI_3 (zi aY (zi tI_4 (zi zI_4 (zi cG (zi tI_27 (zi zI_27 (zi d8 (zi f6 (zi f7 (zi gG (zi tI_40 (zi zI_40 (zi dS (zi fV (zi fW (zi f9 (zi tI_52 (zi zI_52 (zi bU (zi bV (zi bX (zi bY (zi bT (zi tI_150 (zi zI_150 (zi tI_178 (zi zI_178 (zi tI_180 (zi zI_180 (zi tI_181 (zi zI_181 (zi wU (zi F8 (zi GB (zi O3 (zi tI_182 (zi zI_182 (zi zH (zi F9 (zi GC (zi O4 (zi tI_184 (zi zI_184 (zi CR (zi CS (zi CV (zi CW (zi CX (zi CY (zi CZ (zi C3 (zi C4 (zi C5 (zi CT (zi CU (zi B7 (zi tI_211 (zi zI_211 (zi aDC (zi aDD (zi aDE (zi aDF (zi QN (zi tI_215 (zi zI_215 (zi aDG (zi aDH (zi aDI (zi QO (zi tI_219 (zi zI_219 (zi LI (zi LJ KO))))))))))))))))))))))))))))))))))))))))))))))))))))))))))))))))))))))))))
set_option maxHeartbeats 2000000 in
theorem aNE{p:List Cl}(hp:∀c∈p,fJ c∧c.2.length≤6)(hpl:p.length≤20){cnd:Tm→List Nat→List Nat}(hc:∀(ρ:Int→Int) (t:Tm) (l:List Nat),cnd (bH ρ t) l=cnd t l)(hd:∀t l,(∀i∈cnd t l,i∈l)∧(cnd t l).length≤l.length){idx:Bool}(z9:JR p idx cnd)(xA:idx=false)
 {B M k:Nat} (hB:B+26≤524288) (hM:M+520≤16777216) (hk:k+1≤524288) {st0 st:aA} {S c m:Nat} {qt qc qn:AV} {q:List Tm} {fuel used:Int} {mx:Int} {nd:List AV} {s:RS} {i:IS} {g:IG} {rest:List IG}
 (h:cW st0 st S c m qt qc qn p q idx fuel used mx nd i) (hR:RI p B M k s i) (hg:i.goals=g::rest) (hu0:0≤used) (hu:used≤1000000) :
 aD prog 151 [.ptr S 0] st (fun r st'=>if used=fuel then r=.int .i64 2∧cW st0 st' S c m qt qc qn p q idx fuel used mx nd i else FA st0 st' S c m p q idx fuel (used+1) r (j9 p cnd i g rest)):=by
 have hp1:=fun c h=>(hp c h).1
 obtain⟨hgd,ho,hcl,_⟩:=hR.r.facts
 obtain⟨hgo,hg3,_⟩:=hR.r.goal hg
 have hct:=hR.cut hg
 have hst:=hR.step hp hpl hc hd hB hg
 have aYC:=hR.nZ
 have hnn:=hR.n
 have hX:=hR.x
 obtain⟨rk,D,G⟩:=hgd.rs
 have hfo:=GT hgd ho hgo
 have hyk:(g.t.aH (rs i.σ)).k=3:=by rw[Tm.pI _ (by omega)];exact hg3
 have xE:=R6 G (ho.imp fun t ht=>ht.1.2.1) (ho.imp fun t ht=>ht.1.small) c m qt g.t hgo.1.2.1 hgo.1.small
 generalize hT:j9 p cnd i g rest=T at *
 unfold j9 at hT
 obtain⟨⟨gk,gn,gs',gts⟩,cut,up⟩:=g
 simp only at hgo hg3 hct hfo hyk xE hT
 generalize (Tm.mk gk gn gs' gts).aH (rs i.σ)=y at *
 obtain⟨yk,yn,ys,yts⟩:=y
 obtain rfl:yk=3:=hyk
 simp only[Tm.s,Tm.ts] at hT
 have f8:=h.cell
 rw[hg,qI] at f8
 simp only[fZ] at f8
 obtain⟨t1,t2,t3,t4,t5⟩:=h.sto.shape
 obtain⟨n1,n2,n3,n4,n5⟩:=h.acC.shape
 obtain⟨m1,m2,m3,m4,m5⟩:=h.acN.shape
 obtain⟨l1,l2,l3,l4,l5,l6⟩:=nA rest
 refine aD.m7 ?_
 refine wF [1000000] 1 func151 ntmps151 rfl rfl ?_
 intro _
 simp -implicitDefEqProofs only[aB,seval]
 refine wX [(0,1),(1,1),(2,1),(3,1),(4,1),(5,1),(6,1),(7,1),(8,1)] [0,1,2,3,4,5,6,7,8] _ mixed rfl (g9 f8) ?_
 simp -implicitDefEqProofs only[tV,aB,seval,lN]
 refine aT (fun h1=>?_) (fun h1=>?_)
 · have h1':used=fuel:=by simpa using h1
   simp -implicitDefEqProofs only[aB,seval]
   exact⟨st,aM.refl _,by rw[aK h1'];exact h⟩
 have h1':used≠fuel:=by simpa using h1
 have hw:=bJ (n:=used+1)
 simp -implicitDefEqProofs only[aS,f8,hw,aA.aL,aB,seval,lN]
 have h2:=h.put (gl:=i.goals) (F:=i.fresh) (fuel':=fuel) (used':=used+1) (mx':=mx) rfl
 rw[hg,qI] at h2
 simp only[fZ] at h2
 generalize aA.aC st S _=V at h2 ⊢
 have pF:=h2.cell
 rw[qI] at pF
 simp only[fZ] at pF
 have hSV:=h2.sto
 have hr:=fun(s2:aA) (hs2:eQ V s2)=>xE s2 ⟨hs2 _ _ hSV.sub.cells,hs2 _ _ hSV.sub.map⟩
 unfold HX at hr
 by_cases hf:dZ (.mk 3 yn ys yts)=true
 case neg=>
  rw[aG (by unfold dZ at hf;simpa using hf)] at hr
  rw[aK (by simpa using hf)] at hT
  subst hT
  simp only[aX,Tm.zero,bL] at hr
  refine wX [(0,1),(1,1),(2,1),(3,1),(4,1),(5,1),(6,1),(7,1),(8,1),(9,1),(10,1),(11,1),(12,0),(13,0),(14,1)] [0,1,2,3,4,5,6,7,8,9,10,11,14] V mixed rfl (eQ.refl V) ?_
  simp -implicitDefEqProofs only[pF,aB,seval,lN]
  refine SF hr ?_
  simp -implicitDefEqProofs only[aS,aA.aL,aB,seval,lN]
  exact fun b hb=>⟨GJ hb,GJ hb,V,(aM.refl _).aC hb,by rw[aG h1'];exact⟨rfl,_,_,_,_,_,_,h2⟩⟩
 rw[aK (by unfold dZ at hf;simpa using hf)] at hr
 rw[aG (by rw[hf];simp)] at hT
 have hyo:=hfo hf
 simp only[aX] at hr
 have MP:prog.underlying 182=some (.slice 215):=by kernel_rfl
 refine wX [(0,1),(1,1),(2,1),(3,1),(4,1),(5,1),(6,1),(7,1),(8,1),(9,1),(10,1),(11,1),(12,0),(13,0),(14,1)] [0,1,2,3,4,5,6,7,8,9,10,11,14] V mixed rfl (eQ.refl V) ?_
 simp -implicitDefEqProofs only[pF,aB,seval,lN]
 refine SF hr ?_
 simp -implicitDefEqProofs only[aS,aA.aL,aB,seval,lN]
 intro b4 h4
 refine⟨GJ h4,GJ h4,?_⟩
 have h40:=h2.aDY h4
 have GY:S≠b4:=by rintro rfl;rw[pF] at h4;cases h4
 have h3:=h2.box (o:=.cells [AV.int IntKind.i64 3,AV.int IntKind.i64 yn,AV.str ys,AV.slice (List.map Tm.av yts)]) h4
 have DB:(st0.aC b4 (.cells [AV.int IntKind.i64 3,AV.int IntKind.i64 yn,AV.str ys,AV.slice (List.map Tm.av yts)])) b4=some (.cells [AV.int IntKind.i64 3,AV.int IntKind.i64 yn,AV.str ys,AV.slice (List.map Tm.av yts)]):=aA.aL _ _ _
 have hun:=fun {st' qt qc qn q idx fuel used mx nd i}=>cW.unbox (st0:=st0) (st:=st') (S:=S) (c:=c) (m:=m) (qt:=qt) (qc:=qc) (qn:=qn) (p:=p) (q:=q) (idx:=idx) (fuel:=fuel) (used:=used) (mx:=mx) (nd:=nd) (i:=i) (b:=b4) (o:=.cells [AV.int IntKind.i64 3,AV.int IntKind.i64 yn,AV.str ys,AV.slice (List.map Tm.av yts)]) (hn:=h40)
 generalize V.aC b4 (.cells [AV.int IntKind.i64 3,AV.int IntKind.i64 yn,AV.str ys,AV.slice (List.map Tm.av yts)])=W at h3 ⊢
 generalize st0.aC b4 (.cells [AV.int IntKind.i64 3,AV.int IntKind.i64 yn,AV.str ys,AV.slice (List.map Tm.av yts)])=W0 at h3 DB hun
 clear pF hSV hr h2
 have z8:=h3.cell
 rw[qI] at z8
 simp only[fZ] at z8
 have hbW:=h3.aU b4 _ DB
 have hlN:=h3.acN.len MP
 rw[h3.ndl] at hlN
 simp only at hlN
 simp -implicitDefEqProofs only[z8,hlN,m1,aB,seval]
 obtain⟨s0,z1,z2,z3⟩:=JF GY _ _
 refine wX [(0,1),(1,1),(2,1),(3,1),(4,1),(5,1),(6,1),(7,1),(8,1),(9,1),(10,1),(11,1),(12,0),(13,1),(14,1),(15,2)] [0,1,2,3,4,5,6,7,8,9,10,11,13,14] s0 mixed rfl (z3 _ z8 hbW) ?_
 simp -implicitDefEqProofs only[z1,z2,m1,aB,seval,lN]
 refine gX.append zH F9 GC rfl (by decide) h3.acN rfl rfl (by rw[h3.ndl];simp only;omega) (fun qn5 s5 qJ hf hn=>?_)
 have hbo:b4∉gU S c m qt qc qn:=fun hm=>by have:=h3.new b4 hm;rw[DB] at this;cases this
 have hold:∀y o,W y=some o→y∉dA qn→s5 y=some o:=fun y o hy hq=>by
  rw[hf y hq fun hq'=>by
   rcases hn y hq' with h' | h'
   · exact hq h'
   · rw[hy] at h';cases h']
  exact hy
 have qK:=hold S _ z8 h3.parts.2.2.2.2.2.1
 have hb5:=hold b4 _ hbW fun hm=>hbo (dM.2 (.inr (.inr (.inr (.inr (.inr hm))))))
 obtain⟨m1,m2,m3,m4,m5⟩:=qJ.shape
 simp -implicitDefEqProofs only[aS,qK,m4,m5,aB,seval,lN]
 refine⟨z3 _ qK hb5,?_⟩
 have h5:=h3.aTM (n':=i.nn+1) qJ (by rw[eC,h3.ndl];try rfl) (fun e he=>by
  rcases dR.1 he with he | he
  · exact h3.ndw e he
  · simp only[cO,dD,dI] at he;subst he;rfl) hf hn rfl
 rw[qI] at h5
 simp only[fZ] at h5
 generalize aA.aC s5 S _=W5 at h5 ⊢
 clear qK hb5 hold hf hn z8 hbW
 have j8:=h5.cell
 rw[qI] at j8
 simp only[fZ] at j8
 have hb6:=h5.aU b4 _ DB
 have aEK:=aR7 yn ys yts
 have aEG:=aR6 yn ys yts
 simp only[aX] at aEK aEG
 simp -implicitDefEqProofs only[hb6,aB,seval]
 refine(aEK _).to ?_
 simp -implicitDefEqProofs only[aB,seval]
 refine aT (fun hcu=>?_) (fun hcu=>?_)
 · simp only[hcu,dP] at hT
   subst hT
   simp -implicitDefEqProofs only[j8,aB,seval,lN]
   have hsl:=fun(φ:AF) (dd:Nat) (h:φ dd=.int .i64 (cut:Int))=>aGX wU h5.acC h (by rw[aE];exact hct)
   have hQ:=(h5.acC.take (k:=cut) (by rw[aE];exact hct) (MR _)).shape
   obtain⟨c1,c2,c3,c4,c5⟩:=hQ
   obtain⟨s1,y1,y2,y3⟩:=JF GY _ _
   refine wX [(0,1),(1,1),(2,1),(3,1),(4,1),(5,1),(6,1),(7,1),(8,1),(9,1),(10,1),(11,1),(12,2)] [0,1,2,3,4,5,6,7,8,9,10,11] s1 mixed rfl (y3 _ j8 hb6) ?_
   simp -implicitDefEqProofs only[aS,y1,j8,hsl,c4,c5,n1,l1,l2,l4,l5,aA.aL,aB,seval,lN]
   refine⟨_,aM.refl _,?_⟩
   rw[aG h1']
   have h6:=h5.SQ (k:=cut) (gl:=rest) hct rfl
   exact⟨rfl,_,_,_,_,_,hun h6⟩
 simp only[hcu,jI,cJ] at hT
 simp -implicitDefEqProofs only[hb6,aB,seval,lN]
 refine(aEG _).to ?_
 simp -implicitDefEqProofs only[aB,seval]
 refine aT (fun hbl=>?_) (fun hbl=>?_)
 · simp only[hbl,dP] at hT
   have hks:∀x∈yts,a8 i.fresh x:=pL _ (.mk 3 yn ys yts) (show(3:Int)≠1 by decide) hyo
   have DD:=aLD hgd ho yn ys yts hbl hks c m qt i.tr W5 h5.sto (by have:=hX.OY;have:=hX.phi;omega)
   simp only[aX] at DD
   replace hT:(if(cQ i.σ ys yts).1=0 then uJ.go { goals:=rest,σ:=(cQ i.σ ys yts).2.1,tr:=i.tr++(cQ i.σ ys yts).2.2,chs:=i.chs,fresh:=i.fresh,nn:=i.nn+1 } else if(cQ i.σ ys yts).1=1 then uJ.fail { goals:=i.goals,σ:=(cQ i.σ ys yts).2.1,tr:=i.tr++(cQ i.σ ys yts).2.2,chs:=i.chs,fresh:=i.fresh,nn:=i.nn+1 } else uJ.stop (oA (cQ i.σ ys yts).1))=T:=hT
   generalize vM:cQ i.σ ys yts=Z at DD hT
   obtain⟨code,σ',add⟩:=Z
   simp only at hT
   obtain⟨s1,y1,y2,y3⟩:=JF GY _ _
   refine wX [(0,1),(1,1),(2,1),(3,1),(4,1),(5,0),(6,1)] [0,1,2,3,4,6] s1 mixed rfl (y3 _ j8 hb6) ?_
   simp -implicitDefEqProofs only[y1,y2,aB,seval,lN]
   refine DD.mono ?_
   rintro _ s6 ⟨rfl,hP⟩
   obtain⟨qt6,h6⟩:=h5.post hP
   have lX:=h6.cell
   rw[qI] at lX
   simp only[fZ] at lX
   have hb7:=h6.aU b4 _ DB
   obtain⟨t1,t2,t3,t4,t5⟩:=h6.sto.shape
   simp -implicitDefEqProofs only[aB,seval]
   refine⟨y3 _ lX hb7,?_⟩
   refine aT (fun hc0=>?_) (fun hc0=>?_)
   · have LX:code=0:=by simpa using hc0
     rw[aK LX] at hT
     subst hT
     simp -implicitDefEqProofs only[aS,lX,l1,l2,l4,l5,aB,seval,lN]
     refine⟨_,aM.refl _,?_⟩
     rw[aG h1']
     exact⟨rfl,_,_,_,_,_,hun (h6.put (gl:=rest) (F:=i.fresh) (fuel':=fuel) (used':=used+1) (mx':=mx) rfl)⟩
   have LX:code≠0:=by simpa using hc0
   rw[aG LX] at hT
   simp -implicitDefEqProofs only[aB,seval]
   refine aT (fun hc1=>?_) (fun hc1=>?_)
   · have LY:code=1:=by simpa using hc1
     rw[aK LY] at hT
     subst hT
     simp only at hst
     rw[←hg] at h6
     have hbk:=KS hp (M:=M+520) (by omega) _ _ _ _ _ _ ({ goals:=i.goals,σ:=σ',tr:=i.tr++add,chs:=i.chs,fresh:=i.fresh,nn:=i.nn+1 }:IS) s.chs (T:=fT p (({ goals:=i.goals,σ:=σ',tr:=i.tr++add,chs:=i.chs,fresh:=i.fresh,nn:=i.nn+1 }:IS)).chs.length ({ goals:=i.goals,σ:=σ',tr:=i.tr++add,chs:=i.chs,fresh:=i.fresh,nn:=i.nn+1 }:IS)) ⟨h6,hst.1,hst.2.1,rfl,⟨by rw[hst.1.len];have:=hR.a.a.nZ;omega,wH hst.2.2.1 (by omega)⟩⟩
     simp -implicitDefEqProofs only[aB,seval]
     refine hbk.mono ?_
     rintro r s7 hr
     simp -implicitDefEqProofs only[aB,seval]
     refine⟨s7,aM.refl _,?_⟩
     rw[aG h1']
     simp only[FA]
     cases hB2:fT p (({ goals:=i.goals,σ:=σ',tr:=i.tr++add,chs:=i.chs,fresh:=i.fresh,nn:=i.nn+1 }:IS)).chs.length ({ goals:=i.goals,σ:=σ',tr:=i.tr++add,chs:=i.chs,fresh:=i.fresh,nn:=i.nn+1 }:IS) with
     | none=>
      rw[hB2] at hr
      obtain⟨e1,qt7,qc7,qn7,mx7,nd7,i7,h7⟩:=hr
      exact⟨e1,_,_,_,_,_,_,hun h7⟩
     | some i7=>
      rw[hB2] at hr
      obtain⟨e1,qt7,qc7,qn7,mx7,nd7,h7⟩:=hr
      exact⟨e1,_,_,_,_,_,hun h7⟩
   have LY:code≠1:=by simpa using hc1
   rw[aG LY] at hT
   subst hT
   simp -implicitDefEqProofs only[aB,seval]
   refine(aLL code _).to ?_
   simp -implicitDefEqProofs only[aB,seval]
   refine⟨_,aM.refl _,?_⟩
   rw[aG h1']
   exact⟨rfl,_,_,_,_,_,_,hun h6⟩
 simp only[hbl,jI,cJ] at hT
 have hpr:=R5 3 yn ys yts
 have hcf:=aLF p (.mk 3 yn ys yts) (by omega)
 simp only[aX,Tm.s,Tm.ts] at hpr hcf
 obtain⟨s1,y1,y2,y3⟩:=JF GY _ _
 simp -implicitDefEqProofs only[aB,seval]
 refine wX [(0,1),(1,1),(2,1),(3,1),(4,1),(5,0),(6,0),(7,1)] [0,1,2,3,4,7] s1 mixed rfl (y3 _ j8 hb6) ?_
 simp -implicitDefEqProofs only[y1,y2,aB,seval,lN]
 refine(hpr _).to ?_
 simp -implicitDefEqProofs only[aB,seval]
 refine⟨y3 _ j8 hb6,?_⟩
 refine(hcf _).to ?_
 simp -implicitDefEqProofs only[aE,aB,seval,lN]
 refine⟨y3 _ j8 hb6,?_⟩
 refine aT (fun hl0=>?_) (fun hl0=>?_)
 · have ME:eO p (.mk 3 yn ys yts)= []:=by simpa using hl0
   rw[aK ME] at hT
   subst hT
   simp -implicitDefEqProofs only[aB,seval]
   refine⟨_,aM.refl _,?_⟩
   rw[aG h1']
   exact⟨rfl,_,_,_,_,_,_,hun h5⟩
 have ME:eO p (.mk 3 yn ys yts)≠[]:=by simpa using hl0
 rw[aG ME] at hT
 subst xA
 obtain rfl:=z9 rfl
 have hfl:=aPD p (.mk 3 yn ys yts)
 have h5':=h5
 rw[←hg] at h5'
 have DN:=SD hp (M:=M+520) (by omega) h5' (.mk 3 yn ys yts) i.nn rest (eO p (.mk 3 yn ys yts)) hgd ho hyo (aPE _ _) (by omega) (by simp only;omega) (hX.up (Nat.le_add_right M 520)).node (by have:=hX.phi;simp only;omega) (by simp only;omega) (by simp only;omega)
 simp only[aX] at DN
 simp -implicitDefEqProofs only[j8,aB,seval,lN]
 refine wX [(0,1),(1,1),(2,1),(3,1),(4,1),(5,1),(6,1),(7,1),(8,2)] [0,1,2,3,4,5,6,7] s1 mixed rfl (y3 _ j8 hb6) ?_
 simp -implicitDefEqProofs only[y2,l1,l2,aB,seval,lN]
 refine DN.mono ?_
 rintro _ s6 ⟨rfl,qt6,qc6,mx6,nd6,h6⟩
 simp -implicitDefEqProofs only[aB,seval]
 refine aT (fun ht0=>?_) (fun ht0=>?_)
 · simp only[ht0,dP] at hT
   subst hT
   simp -implicitDefEqProofs only[aB,seval]
   refine⟨_,aM.refl _,?_⟩
   rw[aG h1']
   exact⟨rfl,_,_,_,_,_,hun h6⟩
 simp only[ht0,jI,cJ] at hT
 subst hT
 simp only at hst
 have hbk:=KS hp (M:=M+520) (by omega) _ _ _ _ _ _ (fL p (.mk 3 yn ys yts) i.nn rest (eO p (.mk 3 yn ys yts)) { i with nn:=i.nn+1 }).2 s.chs (T:=fT p ((fL p (.mk 3 yn ys yts) i.nn rest (eO p (.mk 3 yn ys yts)) { i with nn:=i.nn+1 }).2).chs.length (fL p (.mk 3 yn ys yts) i.nn rest (eO p (.mk 3 yn ys yts)) { i with nn:=i.nn+1 }).2) ⟨h6,hst.1,hst.2.1,rfl,⟨by rw[hst.1.len];have:=hR.a.a.nZ;omega,wH hst.2.2.1 (by omega)⟩⟩
 simp -implicitDefEqProofs only[aB,seval]
 refine hbk.mono ?_
 rintro r s7 hr
 simp -implicitDefEqProofs only[aB,seval]
 refine⟨s7,aM.refl _,?_⟩
 rw[aG h1']
 simp only[FA]
 cases hB2:fT p ((fL p (.mk 3 yn ys yts) i.nn rest (eO p (.mk 3 yn ys yts)) { i with nn:=i.nn+1 }).2).chs.length (fL p (.mk 3 yn ys yts) i.nn rest (eO p (.mk 3 yn ys yts)) { i with nn:=i.nn+1 }).2 with
 | none=>
  rw[hB2] at hr
  obtain⟨e1,qt7,qc7,qn7,mx7,nd7,i7,h7⟩:=hr
  exact⟨e1,_,_,_,_,_,_,hun h7⟩
 | some i7=>
  rw[hB2] at hr
  obtain⟨e1,qt7,qc7,qn7,mx7,nd7,h7⟩:=hr
  exact⟨e1,_,_,_,_,_,hun h7⟩


abbrev aHQ:=zi tI_3 (zi zI_3 (zi aY (zi tI_40 (zi zI_40 (zi dS (zi fV (zi fW (zi f9 (zi tI_52 (zi zI_52 (zi bU (zi bV (zi bX (zi bY bT))))))))))))))
theorem aM3(vars:List Int)(n:Int)(st:aA):aD prog 238 [.int .i64 n,.pptr (.slice (vars.map iv))] st (fun r st'=>r=(vr (d5 n vars 0)).av∧st'=st):=by
 refine aD.done ?_
 refine wF [1000000] 2 func238 ntmps238 rfl rfl ?_
 intro _
 simp -implicitDefEqProofs only[aB,seval,aHQ]
 intro b hb
 refine(QY vars n _).to ?_
 simp -implicitDefEqProofs only[aB,seval]
 refine(K4 _ _).to ?_
 simp -implicitDefEqProofs only[aS,Tm.dY,Tm.eV,oP (Tm.eV _),nX (b7 _),aB,seval,aHQ]
 exact⟨Tm.soft _,(aM.refl _).aC hb⟩
abbrev OJ:=zi tI_3 (zi zI_3 (zi aY (zi tI_28 (zi zI_28 (zi aP (zi bE (zi bF (zi b9 (zi tI_40 (zi zI_40 (zi dS (zi fV (zi fW (zi f9 (zi tI_52 (zi zI_52 (zi bU (zi bV (zi bX (zi bY bT))))))))))))))))))))
theorem aM2(l:List Tm)(hln:l.length≤1048576)(hsz:aJ Tm.nodes l≤1099511627776)(hsm:∀t∈l,t.small=true)(st:aA):aD prog 193 [.slice (l.map Tm.av)] st (fun r st'=>r=.slice ((nL l).map Tm.av)∧st'=st):=by
 refine aD.done ?_
 refine wF [1000000] 1 func193 ntmps193 rfl rfl ?_
 simp only[dK,AV.fits,dO,aE]
 intro ⟨hl,_⟩
 simp -implicitDefEqProofs only[aB,seval]
 refine(K5 l _ hsz).to ?_
 simp -implicitDefEqProofs only[aE,aB,↓aW,seval,OJ]
 generalize hv:bO l []=vars
 have hR:nL l=l.map fun t=>t.aH fun v=>vr (d5 v vars 0):=by rw[←hv];try rfl
 rw[hR]
 refine sO (σ:=Unit) [1000000] [2,3,9,10] (l) 4 4 (fun i _=>(((l).take i).map (fun t=>t.aH fun v=>vr (d5 v vars 0))).map Tm.av) (fun _ _=>True) (fun i _=>[(11,.int .i64 i)]) (fun _ _=>st) (fun i _ _ e he=>by simp only[cE] at he;obtain⟨t,_,rfl⟩:=he;exact⟨Tm.eG t,aO t⟩) (by decide +kernel) ⟨(),0,trivial,fun h=>absurd rfl h,aR.mk (by simp -implicitDefEqProofs only[kZ,j5,bL,aB,↓aW,seval])⟩ (fun i x s b hx hlt bD hdr hinv hb=>?_) (fun s b hge hinv=>?_)
 case refine_1=>
  have hw:=bJ (n:=(i:Int)+1)
  have dC:((((l).take i).map (fun t=>t.aH fun v=>vr (d5 v vars 0))).map Tm.av).length=i:=by simp only[aE,dX];omega
  have htk:((((l).take i).map (fun t=>t.aH fun v=>vr (d5 v vars 0))).map Tm.av)++ [Tm.av ((fun t=>t.aH fun v=>vr (d5 v vars 0)) x)]=(((l).take (i+1)).map (fun t=>t.aH fun v=>vr (d5 v vars 0))).map Tm.av:=by rw[fP,hx];simp
  have hat:=bG (av:=Tm.av) aP hx (aO x)
  simp -implicitDefEqProofs only[bD,hat,aB,↓aW,seval,OJ]
  refine(KW (fun v=>vr (d5 v vars 0)) _ [.pptr (.slice (vars.map iv))] rfl x _ (hsm x (cI hx)) (fun n _ s=>aM3 vars n s)).to ?_
  simp -implicitDefEqProofs only[aB,seval,OJ]
  refine gJ aP bE bF rfl rfl (gS (aO _) (Tm.dY _)) (by intro e he;simp only[cE] at he;obtain⟨t,_,rfl⟩:=he;exact aO t) hb (by simp only[dC,bA,bQ];omega) (by simp only[dC,bA,bQ];omega) (fun b' hb'=>?_)
  rw[htk] at hb' ⊢
  simp -implicitDefEqProofs only[aB,seval]
  exact⟨(),b',hb',aR.mk (by simp -implicitDefEqProofs only[hw,aB,seval])⟩
 simp -implicitDefEqProofs only[hge,fR,iR,rW,zX,pE,eD,aB,seval]
 exact⟨rfl,aM.refl _⟩
def O6:Option (List Tm)→AV
 | none=>.tup [.slice [],.bool false]
 | some l=>.tup [.slice (l.map Tm.av),.bool true]
theorem aF6:∀ {l:List Tm},(∀t∈l,t.nodes≤120)→aJ Tm.nodes l≤120*l.length
 | [],_=>by simp [aJ]
 | t::l,h=>by
  have h1:=h t (by simp)
  have h2:=aF6 (l:=l) fun x hx=>h x (by simp [hx])
  simp only[aJ,bA];omega
abbrev EL:=zi tI_3 (zi zI_3 (zi aY (zi tI_4 (zi zI_4 (zi cG (zi tI_28 (zi zI_28 (zi aP (zi bE (zi bF (zi b9 (zi tI_40 (zi zI_40 (zi dS (zi fV (zi fW (zi f9 (zi tI_52 (zi zI_52 (zi bU (zi bV (zi bX (zi bY (zi bT (zi tI_178 zI_178)))))))))))))))))))))))))
theorem aNL{N:Nat}{σ:Sub}(hg:cC σ)(ho:cD (a8 N) σ)(vars:List Int)(hv:∀v∈vars,0≤v∧v<(N:Int))(hl:vars.length≤1000)(c m:Nat)(q:AV)(st:aA)(hS:gQ st c m q σ) :
 aD prog 152 [.ptr c 0,.slice (vars.map iv)] st (fun r st'=>r=O6 (g7 σ vars)∧st'=st):=by
 obtain⟨rk,B,G⟩:=hg.rs
 have xE:=fun(t:Tm) (ht:a8 N t) st hS=>R6 G (ho.imp fun t ht=>ht.1.2.1) (ho.imp fun t ht=>ht.1.small) c m q t ht.1.2.1 ht.1.small st hS
 refine aD.done ?_
 refine wF [1000000] 2 func152 ntmps152 rfl rfl ?_
 intro _
 simp -implicitDefEqProofs only[aE,aB,seval,EL]
 refine sO (σ:=Unit) [1000000] [0,11,12] vars 4 6 (fun i _=>((vars.take i).map (rs σ)).map Tm.av) (fun i _=>((vars.take i).map (rs σ)).all dZ=true) (fun i _=>[(4,.fslice []),(5,.bool false),(13,.int .i64 i)]) (fun _ _=>st) (fun i _ _ e he=>by simp only[cE] at he;obtain⟨t,_,rfl⟩:=he;exact⟨Tm.eG _,aO _⟩) (by decide +kernel) ⟨(),0,rfl,fun h=>absurd rfl h,aR.mk (by simp -implicitDefEqProofs only[kZ,j5,bL,aB,↓aW,seval])⟩ (fun i x s b hx hlt bD hdr hinv hb=>?_) (fun s b hge hinv=>?_)
 · have hw:=bJ (n:=(i:Int)+1)
   have hxm:=cI hx
   obtain⟨hx0,hx1⟩:=hv x hxm
   have hvr:a8 N (vr x):=⟨DZ hx0 hx1,by rw[vr,Tm.jE];simp [aJ]⟩
   have hat:dF prog 40 (.slice (vars.map iv)) (.int .i64 (i:Int))=some (.pptr (.int .i64 x)):=bG (av:=iv) dS hx rfl
   have dC:(((vars.take i).map (rs σ)).map Tm.av).length=i:=by simp only[aE,dX];omega
   have c7:((vars.take (i+1)).map (rs σ)).all dZ=dZ (rs σ x):=by
    rw[fP,hx]
    simp only[J1,pZ,bK,bL,yC,hinv,iW,List.all_nil,wB,iC]
   have hr:=xE (vr x) hvr _ (hS.acc hb)
   rw[tT] at hr
   unfold HX at hr
   simp -implicitDefEqProofs only[bD,hat,aB,seval,EL]
   refine(K4 x _).to ?_
   simp -implicitDefEqProofs only[aB,seval]
   by_cases hf:dZ (rs σ x)=true
   · rw[aK (by unfold dZ at hf;simpa using hf)] at hr
     refine hr.to ?_
     simp -implicitDefEqProofs only[b7,aO,Tm.dY,Tm.eG,aB,↓aW,seval,EL]
     refine gJ aP bE bF rfl rfl (gS (aO _) (Tm.dY _)) (gV _) hb (by simp only[dC,bA,bQ];omega) (by simp only[dC,bA,bQ];omega) (fun b' hb'=>?_)
     rw[show(((vars.take i).map (rs σ)).map Tm.av)++ [(rs σ x).av]=((vars.take (i+1)).map (rs σ)).map Tm.av by rw[fP,hx];simp] at hb' ⊢
     simp -implicitDefEqProofs only[hw,aB,seval]
     exact⟨(),b',by rw[c7];exact hf,hb',aR.mk (by simp -implicitDefEqProofs only[aB,seval])⟩
   · rw[aG (by unfold dZ at hf;simpa using hf)] at hr
     refine hr.to ?_
     simp -implicitDefEqProofs only[aO,Tm.dY,Tm.eG,aB,↓aW,seval,EL]
     have oE:g7 σ vars=none:=by
      unfold g7
      rw[aG]
      rintro⟨h1,_⟩
      exact hf (eE.1 h1 _ (cE.2 ⟨x,hxm,rfl⟩))
     rw[oE]
     exact⟨rfl,aM.bS (aM.refl _) hb⟩
 · rw[eD] at hinv
   have hok:∀t∈vars.map (rs σ),a8 N t:=fun t ht=>by
    obtain⟨v,hvm,rfl⟩:=cE.1 ht
    have hf:=eE.1 hinv _ ht
    unfold dZ at hf
    simp only[cL,bM] at hf
    exact⟨G.kD ho.kD v (hv v hvm).1 (hv v hvm).2,hf.2⟩
   have hsz:aJ Tm.nodes (vars.map (rs σ))≤1099511627776:=by
    have:=aF6 (l:=vars.map (rs σ)) fun t ht=>(hok t ht).2
    rw[aE] at this
    omega
   simp -implicitDefEqProofs only[hge,fR,tH,iR,rW,GS,pE,eD,aB,seval]
   refine(K5 (vars.map (rs σ)) _ hsz).to ?_
   simp -implicitDefEqProofs only[aE,aE,aB,seval,EL]
   refine aT (fun h=>?_) (fun h=>?_)
   · simp -implicitDefEqProofs only[aB,seval]
     have h':¬(bO (vars.map (rs σ)) []).length≤26:=by simp at h;omega
     unfold g7
     rw[aG (fun hh=>h' hh.2)]
     exact⟨rfl,aM.refl _⟩
   · simp -implicitDefEqProofs only[aB,seval]
     have h':(bO (vars.map (rs σ)) []).length≤26:=by simp at h;omega
     refine(aM2 (vars.map (rs σ)) (by rw[aE];omega) hsz (fun t ht=>(hok t ht).1.small) _).to ?_
     simp -implicitDefEqProofs only[aB,seval]
     unfold g7
     rw[aK ⟨hinv,h'⟩]
     exact⟨rfl,aM.refl _⟩
abbrev aH1:=zi tI_3 (zi zI_3 (zi aY (zi tI_4 (zi zI_4 (zi cG (zi tI_27 (zi zI_27 (zi d8 (zi f6 (zi f7 (zi gG (zi tI_28 (zi zI_28 (zi aP (zi bE (zi bF (zi b9 (zi tI_150 (zi zI_150 (zi tI_180 (zi zI_180 (zi tI_184 (zi zI_184 (zi CR (zi CS (zi CV (zi CW (zi CX (zi CY (zi CZ (zi C3 (zi C4 (zi C5 (zi CT (zi CU B7)))))))))))))))))))))))))))))))))))
theorem aMY(p:List Cl)(q:List Tm)(fuel:Int)(idx:Bool)(hq:q.length≤1048576)(st:aA) :
 aD prog 122 [.slice (p.map bB),.slice (q.map Tm.av),.int .i64 fuel,.bool idx] st (fun r st'=>∃S c m,r=.ptr S 0∧cW st st' S c m (.fslice []) (.fslice []) (.fslice []) p q idx fuel 0 0 [] (mM q)):=by
 have xD:=fun st=>KY q 0 (-1) [] hq st
 simp only[fN] at xD
 rw[dT] at xD
 refine wF [1000000,16] 4 func122 ntmps122 rfl rfl ?_
 intro _
 simp -implicitDefEqProofs only[aB,seval]
 refine(aMZ st).mono ?_
 rintro _ s1 ⟨c,m,rfl,hS,hQ,hc,hm⟩
 simp -implicitDefEqProofs only[aB,seval,aH1]
 intro S hS0
 have hSc:S≠c:=by rintro rfl;rw[hS.sub.cells] at hS0;cases hS0
 have hSm:S≠m:=by rintro rfl;rw[hS.sub.map] at hS0;cases hS0
 refine(xD _).to ?_
 obtain⟨l1,l2,l3,l4,l5,l6⟩:=nA (q.map (fun t=>(⟨t,0,-1⟩:IG)))
 simp -implicitDefEqProofs only[aS,aA.aL,l4,l5,aB,seval,aH1]
 refine⟨S,c,m,rfl,?_⟩
 have hcm:c≠m:=by rintro rfl;have:=hS.sub.cells;rw[hS.sub.map] at this;cases this
 have aD5:st S=none:=by
  cases hh:st S with
  | none=>rfl
  | some o=>have:=hQ.frame S o hh hSc hSm (by simp [cY]);rw[hS0] at this;cases this
 refine⟨aA.aL _ _ _,hS.aC hSc hSm (by simp [cY]),.inl ⟨rfl,rfl⟩,.inl ⟨rfl,rfl⟩,rfl,by simp,?_,?_,?_⟩
 · simp [gU,cY,dA,hSc,hSm,hcm]
 · intro b hb
   rcases dM.1 hb with rfl | rfl | rfl | hb | hb | hb
   · exact aD5
   · exact hc
   · exact hm
   · simp [cY] at hb
   · simp [dA] at hb
   · simp [dA] at hb
 · intro b o hb
   have e1:b≠S:=by rintro rfl;rw[aD5] at hb;cases hb
   rw[aA.aF _ _ e1]
   exact hQ.frame b o hb (by rintro rfl;rw[hc] at hb;cases hb) (by rintro rfl;rw[hm] at hb;cases hb) (by simp [cY])
theorem aLE(p:List Cl)(q:List Tm)(most fuel:Int)(st:aA) :
 aD prog 121 [.slice (p.map bB),.slice (q.map Tm.av),.int .i64 most,.int .i64 fuel] st (fun r st'=>r=.bool (mN p&&(lI q&&(decide (0≤most)&&(decide (most≤20)&&(decide (0≤fuel)&&decide (fuel≤300))))))∧st'=st):=by
 have h1:=fun st=>Q6 p st
 have h2:=fun st=>Q7 q st
 have h3:=fun n lo hi st=>wS n lo hi st
 refine wF [] 4 func121 ntmps121 rfl rfl ?_
 intro _
 simp -implicitDefEqProofs only[aB,seval]
 refine(h1 _).to ?_
 simp -implicitDefEqProofs only[aB,seval]
 refine cS (fun h=>?_) (fun h=>?_)
 · simp -implicitDefEqProofs only[h,aB,seval]
   refine(h2 _).to ?_
   simp -implicitDefEqProofs only[aB,seval]
   refine cS (fun h5=>?_) (fun h5=>?_)
   · simp -implicitDefEqProofs only[h5,aB,seval]
     refine(h3 _ _ _ _).to ?_
     simp -implicitDefEqProofs only[aB,seval]
     refine cS (fun h6=>?_) (fun h6=>?_)
     · simp -implicitDefEqProofs only[h6,aB,seval]
       refine(h3 _ _ _ _).to ?_
       simp -implicitDefEqProofs only[aB,seval]
       rw[←Bool.and_assoc (decide (0≤most)),h6,iC]
     · simp -implicitDefEqProofs only[h6,aB,seval]
       rw[←Bool.and_assoc (decide (0≤most)),h6]
       try rfl
   · simp -implicitDefEqProofs only[h5,aB,seval]
     rw[kT]
 · simp -implicitDefEqProofs only[h,aB,seval]
   rw[kT]
theorem aM7(st:aA):aD prog 124 [] st (fun r st'=>r=.tup []∧st'=st):=by
 refine wF [1000000] 0 func124 ntmps124 rfl rfl ?_
 intro _
 simp -implicitDefEqProofs only[aB,seval,]
structure J2 where
 st:aA
 qt:AV
 qc:AV
 qn:AV
 mx:Int
 nd:List AV
 s:RS
 i:IS
 out:List (List Tm)
 b:Nat
 u:Nat
 B:Nat
 M:Nat
 e:Int
structure aI8 (st0:aA) (S c m:Nat) (p:List Cl) (q:List Tm) (idx:Bool) (cnd:Tm→List Nat→List Nat) (vars:List Int) (most fuel:Nat) (T:List (List Tm)×Int) (x:J2):Prop where
 a:cW st0 x.st S c m x.qt x.qc x.qn p q idx fuel x.u x.mx x.nd x.i
 r:RI p x.B x.M x.u x.s x.i
 t:T=(x.out++(hH p cnd vars (most - x.out.length) (fuel - x.u) x.i).1,(hH p cnd vars (most - x.out.length) (fuel - x.u) x.i).2)
 u:x.u≤fuel
 B:x.B≤26+26*x.u
 M:x.M≤26+520*x.u
structure PO (st0:aA) (S c m:Nat) (p:List Cl) (q:List Tm) (idx:Bool) (cnd:Tm→List Nat→List Nat) (vars:List Int) (most fuel:Nat) (T:List (List Tm)×Int) (x:J2):Prop where
 d:aM x.st st0
 b:x.out.map bP≠[]→x.st x.b=none
 l:x.out.length≤most
 g:x.e= -1→aI8 st0 S c m p q idx cnd vars most fuel T x
 f:x.e≠-1→T=(x.out,x.e)
abbrev IQ:=zi tI_3 (zi zI_3 (zi aY (zi tI_4 (zi zI_4 (zi cG (zi tI_28 (zi zI_28 (zi aP (zi bE (zi bF (zi b9 (zi tI_31 (zi zI_31 (zi gE (zi kN (zi kO (zi mB (zi tI_40 (zi zI_40 (zi dS (zi fV (zi fW (zi f9 (zi tI_55 (zi zI_55 (zi vK (zi uY (zi tI_150 (zi zI_150 (zi tI_178 (zi zI_178 (zi tI_180 (zi zI_180 (zi tI_184 (zi zI_184 (zi CR (zi CS (zi CV (zi CW (zi CX (zi CY (zi CZ (zi C3 (zi C4 (zi C5 (zi CT (zi CU B7)))))))))))))))))))))))))))))))))))))))))))))))
set_option maxHeartbeats 2000000 in
theorem aM4{p:List Cl}(hp:∀c∈p,fJ c∧c.2.length≤6)(hpl:p.length≤20){cnd:Tm→List Nat→List Nat}(hc:∀(ρ:Int→Int) (t:Tm) (l:List Nat),cnd (bH ρ t) l=cnd t l)(hd:∀t l,(∀i∈cnd t l,i∈l)∧(cnd t l).length≤l.length){idx:Bool}(z9:JR p idx cnd)(xA:idx=false)
 {q:List Tm} (hq:∀t∈q,a8 26 t∧t.k=3) (h6:q.length≤6) {most fuel:Nat} (hm:most≤20) (hf:fuel≤300) {st0 st:aA} {S c m:Nat} (h:cW st0 st S c m (.fslice []) (.fslice []) (.fslice []) p q idx fuel 0 0 [] (mM q)) :
 aD prog 123 [.ptr S 0,.int .i64 (most:Int),.func 124 []] st (fun r st'=>∃b s,r=.tup [bR 1 b ((hH p cnd (bO q []) most fuel (mM q)).1.map bP),.int .i64 (hH p cnd (bO q []) most fuel (mM q)).2]∧st'=bS s b ((hH p cnd (bO q []) most fuel (mM q)).1.map bP)∧((hH p cnd (bO q []) most fuel (mM q)).1.map bP≠[]→s b=none)∧aM s st0):=by
 have hnd:aJ Tm.nodes q≤1099511627776:=by
  have:=AM q fun t ht=>(hq t ht).1.2
  omega
 have hva:=fun st=>K5 q st hnd
 have hv:∀v∈bO q [],0≤v∧v<26:=fun v hv=>by
  rcases (v4 q [] fun t ht=>(hq t ht).1.1.2.1).1 hv with h | ⟨t,ht,h⟩
  · cases h
  · exact(hq t ht).1.1.2.2 v h
 have hvl:(bO q []).length≤1000:=by
  have h1:=v3 q []
  have h2:=AM q fun t ht=>(hq t ht).1.2
  simp only[bQ] at h1
  omega
 have HG:=RI.start (p:=p) hq h6
 generalize hT:hH p cnd (bO q []) most fuel (mM q)=T
 generalize bO q []=vars at *
 have hI0:PO st0 S c m p q idx cnd vars most fuel T ⟨st,.fslice [],.fslice [],.fslice [],0,[],kG q,mM q,[],0,0,26,26,-1⟩:=
  ⟨h.tD,by simp,mV _,fun _=>⟨h,HG,by rw[←hT];try rfl,mV _,cT _,cT _⟩,fun h=>absurd rfl h⟩
 have L0:=h.cell
 simp only[fZ] at L0
 obtain⟨l1,l2,l3,l4,l5,l6⟩:=nA (mM q).goals
 refine wF [1000000] 3 func123 ntmps123 rfl rfl ?_
 intro _
 simp -implicitDefEqProofs only[L0,aB,seval,IQ]
 refine(hva _).to ?_
 simp -implicitDefEqProofs only[aB,seval]
 clear L0 l1 l2 l3 l4 l5 l6
 have hne:∀l:List IG,dJ prog .neq 180 (dT l) .nilptr=some (.bool (!l.isEmpty)):=fun l=>by
  have h:prog.underlying 180=some (.pointer 211):=by kernel_rfl
  cases l with
  | nil=>rw[dT];simp only[dJ,h];rfl
  | cons g l=>obtain⟨⟨k,n,s,ts⟩,cut,up⟩:=g;rw[qI];simp only[dJ,h];rfl
 refine rB (σ:=J2) [1000000] [0,1,2,8] (fun x=>PO st0 S c m p q idx cnd vars most fuel T x)
  (fun x=>[(6,.fslice []),(7,.int .i64 0),(9,bR 1 x.b (x.out.map bP)),(10,.int .i64 x.e)])
  (fun x=>bS x.st x.b (x.out.map bP))
  (fun x=>(most - x.out.length)+(fuel - x.u)+(if x.e= -1 then 1 else 0)) (by decide +kernel) ⟨_,hI0,aR.mk (by simp -implicitDefEqProofs only[kZ,bL,aB,seval])⟩ ?_
 clear hI0 h hT HG
 rintro⟨st,qt,qc,qn,mx,nd,s,i,out,b,u,B,M,e⟩ ⟨hdr,hb,hlen,hgo,fX⟩
 simp only at hdr hb hlen hgo fX
 simp only
 simp -implicitDefEqProofs only[aB,seval]
 refine aT (fun h=>?_) (fun h=>?_)
 case refine_2=>
  have h':e≠-1:=by simpa using h
  have hTe:=fX h'
  subst hTe
  simp -implicitDefEqProofs only[rI,aB,seval]
  exact⟨b,st,rfl,rfl,hb,hdr⟩
 obtain rfl:e= -1:=by simpa using h
 obtain⟨ha,hR,ht,hu,hBB,hMM⟩:=hgo rfl
 simp only at ha hR ht hu hBB hMM
 have hb0:out.map bP≠[]→st0 b=none:=fun h=>(hdr b).1 (hb h)
 have hA:=ha.acc hb
 have hlo:(out.map bP).length=out.length:=aE _
 have hun:prog.underlying 31=some (.slice 55):=by kernel_rfl
 have r7:=BZ (w:=1) (b:=b) (l:=out.map bP) hun
 rw[hlo] at r7
 have HH:∀l:List (List Tm),∀e∈l.map bP,e.width=1:=fun l e he=>by simp only[cE] at he;obtain⟨t,_,rfl⟩:=he;rfl
 have f8:=hA.cell
 simp only[fZ] at f8
 obtain⟨l1,l2,l3,l4,l5,l6⟩:=nA i.goals
 have mL:=hne i.goals
 simp -implicitDefEqProofs only[aB,seval]
 refine(aM7 _).to ?_
 simp -implicitDefEqProofs only[f8,l1,mL,aB,seval,IQ]
 cases hg:i.goals with
 | cons g rest=>
  rw[hg] at mL
  simp only[List.isEmpty_cons,sQ] at mL
  refine aT (fun h2=>?_) (fun h2=>absurd h2 (by first | rw[hg];simp | simp))
  simp -implicitDefEqProofs only[aB,seval]
  rw[aRT hg] at ht
  have qQ:=aNE hp hpl hc hd z9 xA (B:=B) (M:=M) (k:=u) (by omega) (by omega) (by omega) hA hR hg (by omega) (by omega)
  have hRs:=hR.step hp hpl hc hd (by omega) hg
  have hse:=aRX (p:=p) (cnd:=cnd) (i:=i) (g:=g) (rest:=rest)
  refine qQ.mono ?_
  clear qQ
  rintro r s2 hr
  split at hr
  · rename_i hfu
    obtain⟨rfl,hA2⟩:=hr
    obtain⟨s3,rfl,hb3,hA3⟩:=hA2.xW hb0
    rw[aK (by omega)] at ht
    simp -implicitDefEqProofs only[aB,seval]
    exact⟨⟨s3,qt,qc,qn,mx,nd,s,i,out,b,u,B,M,2⟩,by simp,⟨hA3.tD,hb3,hlen,fun h=>absurd h (by simp),fun _=>by rw[ht];simp⟩,aR.mk (by simp -implicitDefEqProofs only[aB,seval])⟩
  · rename_i hfu
    have aYF:u<fuel:=by omega
    rw[aG (by omega)] at ht
    cases hS:j9 p cnd i g rest with
    | stop e=>
     rw[hS] at hr ht hse
     simp only[PP] at hse
     simp only at ht
     obtain⟨rfl,qt2,qc2,qn2,mx2,nd2,i2,hA2⟩:=hr
     obtain⟨s3,rfl,hb3,hA3⟩:=hA2.xW hb0
     simp -implicitDefEqProofs only[aB,seval]
     exact⟨⟨s3,qt,qc,qn,mx,nd,s,i,out,b,u,B,M,e⟩,by simp [hse],⟨hA3.tD,hb3,hlen,fun h=>absurd h hse,fun _=>by rw[ht];simp⟩,aR.mk (by simp -implicitDefEqProofs only[aB,seval])⟩
    | go i'=>
     rw[hS] at hr ht hRs
     simp only at ht hRs
     obtain⟨s',hR'⟩:=hRs
     obtain⟨rfl,qt2,qc2,qn2,mx2,nd2,hA2⟩:=hr
     obtain⟨s3,rfl,hb3,hA3⟩:=hA2.xW hb0
     simp -implicitDefEqProofs only[aB,seval]
     exact⟨⟨s3,qt2,qc2,qn2,mx2,nd2,s',i',out,b,u+1,B+26,M+520,-1⟩,by simp;omega,⟨hA3.tD,hb3,hlen,fun _=>⟨hA3,hR',by rw[ht,Nat.sub_sub],by simp only;omega,by simp only;omega,by simp only;omega⟩,fun h=>absurd rfl h⟩,aR.mk (by simp -implicitDefEqProofs only[aB,seval])⟩
    | fail i'=>
     rw[hS] at hr ht hRs
     simp only[FA] at ht hRs hr
     obtain⟨_,_,_,hRb⟩:=hRs
     cases hbk:fT p i'.chs.length i' with
     | none=>
      rw[hbk] at hr ht
      simp only at ht
      obtain⟨rfl,qt2,qc2,qn2,mx2,nd2,i2,hA2⟩:=hr
      obtain⟨s3,rfl,hb3,hA3⟩:=hA2.xW hb0
      simp -implicitDefEqProofs only[aB,seval]
      exact⟨⟨s3,qt,qc,qn,mx,nd,s,i,out,b,u,B,M,0⟩,by simp,⟨hA3.tD,hb3,hlen,fun h=>absurd h (by simp),fun _=>by rw[ht];simp⟩,aR.mk (by simp -implicitDefEqProofs only[aB,seval])⟩
     | some i2=>
      rw[hbk] at hr ht
      simp only at ht
      obtain⟨s',hR'⟩:=hRb i2 hbk
      obtain⟨rfl,qt2,qc2,qn2,mx2,nd2,hA2⟩:=hr
      obtain⟨s3,rfl,hb3,hA3⟩:=hA2.xW hb0
      simp -implicitDefEqProofs only[aB,seval]
      exact⟨⟨s3,qt2,qc2,qn2,mx2,nd2,s',i2,out,b,u+1,B+26,M+520,-1⟩,by simp;omega,⟨hA3.tD,hb3,hlen,fun _=>⟨hA3,hR',by rw[ht,Nat.sub_sub],by simp only;omega,by simp only;omega,by simp only;omega⟩,fun h=>absurd rfl h⟩,aR.mk (by simp -implicitDefEqProofs only[aB,seval])⟩
 | nil=>
  rw[hg] at mL
  simp only[List.isEmpty_nil,kU] at mL
  refine aT (fun h2=>absurd h2 (by first | rw[hg];simp | simp)) (fun h2=>?_)
  simp -implicitDefEqProofs only[r7,aB,seval]
  rw[aRU hg] at ht
  refine aT (fun h2=>?_) (fun h2=>?_)
  · have h':out.length=most:=by simp at h2;omega
    rw[aK (by omega)] at ht
    simp -implicitDefEqProofs only[rI,aB,seval]
    have hTe:T=(out,1):=by rw[ht];simp
    subst hTe
    exact⟨b,st,rfl,rfl,hb,hdr⟩
  have h':out.length<most:=by simp at h2;omega
  rw[aG (by omega)] at ht
  simp -implicitDefEqProofs only[f8,hg,aB,seval,IQ]
  obtain⟨hgd,ho,_,_⟩:=hR.r.facts
  have hfr:26≤i.fresh:=by
   obtain⟨ρ,S',_⟩:=hR.r
   have h1:=S'.rng 25 (by omega) (by have:=S'.h26;omega)
   rw[S'.idn 25 (by omega) (by omega)] at h1
   omega
  refine(aNL (N:=i.fresh) hgd ho vars (fun v h=>⟨(hv v h).1,by have:=(hv v h).2;omega⟩) hvl c m qt _ hA.sto.sub).to ?_
  cases oE:g7 i.σ vars with
  | none=>
   rw[oE] at ht
   simp only[O6]
   simp only at ht
   simp -implicitDefEqProofs only[rI,aB,seval]
   have hTe:T=(out,3):=by rw[ht];simp
   subst hTe
   exact⟨b,st,rfl,rfl,hb,hdr⟩
  | some a=>
   rw[oE] at ht
   simp only[O6]
   simp only at ht
   simp -implicitDefEqProofs only[aB,seval,IQ]
   refine gJ (P:=prog) (b:=b) (l:=out.map bP) (xs:=[bP a]) gE kN kO rfl rfl (gS rfl rfl) (HH out) hb (by simp only[bA,bQ,hlo];omega) (by simp only[bA,bQ,hlo];omega) (fun b' hb'=>?_)
   rw[show(out.map bP)++ [bP a]=(out++ [a]).map bP by simp] at hb' ⊢
   have hA':=ha.acc hb'
   have aEC:(out++ [a]).map bP≠[]→st0 b'=none:=fun h=>(hdr b').1 (hb' h)
   have aP3:=hA'.cell
   simp only[fZ] at aP3
   simp -implicitDefEqProofs only[aB,seval]
   have hbk:=KS hp (M:=M) (by omega) _ qt qc qn mx nd i s.chs (st0:=bS st0 b' ((out++ [a]).map bP)) (S:=S) (c:=c) (m:=m) (q:=q) (idx:=idx) (fuel:=fuel) (used:=u) (T:=fT p i.chs.length i) ⟨hA',hR.cr,hR.x,rfl,by have:=hR.nZ;have:=hR.n;constructor<;>omega⟩
   refine hbk.mono ?_
   rintro r s2 hr
   have hln:(out++ [a]).length=out.length+1:=by simp
   cases hbk:fT p i.chs.length i with
   | none=>
    rw[hbk] at hr ht
    simp only at ht
    obtain⟨rfl,qt2,qc2,qn2,mx2,nd2,i2,hA2⟩:=hr
    obtain⟨s3,rfl,hb3,hA3⟩:=hA2.xW aEC
    simp -implicitDefEqProofs only[aB,seval]
    exact⟨⟨s3,qt,qc,qn,mx,nd,s,i,out++ [a],b',u,B,M,0⟩,by simp only[hln];simp;omega,⟨hA3.tD,hb3,by simp only[hln];omega,fun h=>absurd h (by simp),fun _=>by rw[ht]⟩,aR.mk (by simp -implicitDefEqProofs only[aB,seval])⟩
   | some i2=>
    rw[hbk] at hr ht
    simp only at ht
    obtain⟨s',hR'⟩:=hR.back hp (by omega) hbk
    obtain⟨rfl,qt2,qc2,qn2,mx2,nd2,hA2⟩:=hr
    obtain⟨s3,rfl,hb3,hA3⟩:=hA2.xW aEC
    simp -implicitDefEqProofs only[aB,seval]
    exact⟨⟨s3,qt2,qc2,qn2,mx2,nd2,s',i2,out++ [a],b',u,B,M,-1⟩,by simp [hln];omega,⟨hA3.tD,hb3,by simp only[hln];omega,fun _=>⟨hA3,hR',by rw[ht];simp only[hln,kW,gB,eR,Nat.sub_sub],hu,hBB,hMM⟩,fun h=>absurd rfl h⟩,aR.mk (by simp -implicitDefEqProofs only[aB,seval])⟩
end Go.AW
