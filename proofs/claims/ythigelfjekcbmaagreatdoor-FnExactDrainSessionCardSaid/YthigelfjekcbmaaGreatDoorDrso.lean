import Derived.Test.YthigelfjekcbmaaGreatDoorDrsn
import Derived.Test.YthigelfjekcbmaaGreatDoorDrsl
import Derived.Test.YthigelfjekcbmaaGreatDoorDrsm
import Derived.Test.YthigelfjekcbmaaGreatDoorDrsk
import Derived.Test.YthigelfjekcbmaaGreatDoorDrsj
set_option linter.unusedSimpArgs false
set_option linter.unusedVariables false
set_option maxRecDepth 100000
namespace Go.AW
open Go.Proofs.Tryz
abbrev aJP:=zi tI_3 (zi zI_3 (zi aZ (zi tI_52 (zi zI_52 (zi bX (zi bY (zi bZ (zi b7 bV))))))))
theorem aO5(n:Int)(F:Nat)(h0:0≤n)(h1:n≤1048576)(hF:F≤536870912)(st:aA):aD prog 236 [.int .i64 n,.pptr (.int .i64 (F:Int))] st (fun r st'=>r=(vr (n+(F:Int))).av∧st'=st):=by
 refine aD.done ?_
 refine wF [1000000] 2 func236 ntmps236 rfl rfl ?_
 intro _
 have hw:=bK (n:=n+(F:Int))
 simp -implicitDefEqProofs only[hw,aB,seval,aJP]
 intro b3 h3
 refine(MC _ _).to ?_
 simp -implicitDefEqProofs only[aS,Tm.d8,Tm.fG,pJ (Tm.fG _),oO (bU _),aB,seval,aJP]
 exact⟨by simp only[Tm.soft],(aL.refl _).aC h3⟩
theorem L7{F:Nat}(hF:F≤536870912)(t:Tm)(h:a9 26 t)(st:aA):aD prog 237 [t.av,.func 236 [.pptr (.int .i64 (F:Int))]] st (fun r st'=>r=(cU F t).av∧st'=st):=
 L3 (fun v=>vr (v+(F:Int))) _ _ rfl t st h.1.small fun n hn s=>aO5 n F (h.1.2.2 n hn).1 (by have:=(h.1.2.2 n hn).2;omega) hF s
theorem aFJ{b:Nat}{L:List AV}(l:List IG):(d5 l).fin b L=d5 l:=by
 cases l with
 | nil=>rw[d5];unfold AV.fin;split<;>rfl
 | cons g l=>obtain⟨⟨k,n,s,ts⟩,cut,up⟩:=g;rw[rK];exact A0
abbrev mE:=zi tI_3 (zi zI_3 (zi aZ (zi tI_4 (zi zI_4 (zi cG (zi tI_27 (zi zI_27 (zi eT (zi gO (zi gP (zi iD (zi tI_28 (zi zI_28 (zi aQ (zi bM (zi bO (zi cA (zi tI_40 (zi zI_40 (zi dC (zi fH (zi fJ (zi fL (zi tI_52 (zi zI_52 (zi bX (zi bY (zi bZ (zi b7 (zi bV (zi tI_111 (zi zI_111 (zi kS (zi kT (zi kQ (zi tI_150 (zi zI_150 (zi tI_178 (zi zI_178 (zi tI_180 (zi zI_180 (zi tI_181 (zi zI_181 (zi xM (zi HA (zi HD (zi QC (zi tI_182 (zi zI_182 (zi AK (zi HB (zi HE (zi QD (zi tI_184 (zi zI_184 (zi DR (zi DS (zi DV (zi DW (zi DX (zi DY (zi DZ (zi D0 (zi D1 (zi D3 (zi DT (zi DU (zi C8 (zi tI_209 (zi zI_209 (zi AY (zi AZ (zi AB (zi tI_215 (zi zI_215 (zi aEN (zi aEO (zi aEP (zi RY (zi tI_224 (zi zI_224 (zi aEQ (zi aER (zi aES (zi aET (zi aEU (zi aEV RZ)))))))))))))))))))))))))))))))))))))))))))))))))))))))))))))))))))))))))))))))))))))))
set_option maxHeartbeats 2000000 in
theorem TL{p:List Cl}(hp:∀c∈p,fX c∧c.2.length≤6){M:Nat}(hM:M≤268435456){st0 st:aA}{S c m:Nat}{qt qc qn:AV}{q:List Tm}{idx:Bool}{fuel used mx:Int}{nd:List AV}{i:IS}(h:cW st0 st S c m qt qc qn p q idx fuel used mx nd i)
 (goal:Tm) (at':Nat) (rest:List IG) (list:List Nat) (hg:cD i.σ) (ho:cF (a9 i.fresh) i.σ) (hgo:a9 i.fresh goal) (hl:∀x∈list,x<p.length) (hll:list.length≤1048576) (ha:at'<i.nn) (hX:IX p M i) (hMl:i.fresh+26*oB i.chs+26*list.length≤M) (hch:i.chs.length≤524288) (hnn:i.nn≤524288) :
 aD prog 191 [.ptr S 0,goal.av,.int .i64 (at':Int),.slice (list.map nv),d5 rest] st (fun r st'=>r=.bool (fZ p goal at' rest list i).1∧∃qt' qc' mx' nd',cW st0 st' S c m qt' qc' qn p q idx fuel used mx' nd' (fZ p goal at' rest list i).2):=by
 obtain⟨bN,rfl⟩:=h.nodes ha
 obtain⟨gk,gn,gs',gts⟩:=goal
 obtain⟨g1,g2,g3,g4,g5,g6⟩:=nY rest
 generalize hT:fZ p (.mk gk gn gs' gts) at' rest list i=T
 simp only[a7]
 have hun:prog.underlying 40=some (.slice 3):=by kernel_rfl
 have eC:st S=some (.cells [.ptr c 0,.slice (p.map bD),.slice (q.map Tm.av),.bool idx,.bool false,.int .i64 fuel,.int .i64 used,.int .i64 i.fresh,d5 i.goals,qc,.mslice bN 0 nd.length 6,.int .i64 mx]):=h.cell
 have hcc:=h.sto.sub.cells
 have htl:=h.sto.aKC (P:=prog) hun
 obtain⟨t1,t2,t3,t4,t5⟩:=h.sto.shape
 refine aD.nB ?_
 refine wF [1000000] 5 func191 ntmps191 rfl rfl ?_
 intro _
 simp -implicitDefEqProofs only[aE,eC,hcc,htl,t1,aB,seval,mE]
 refine dW (σ:=aA×AV) [1000000] [0,2,3,4,6,11,28,29] list (fun k s=>cW st0 s.1 S c m s.2 qc (.mslice bN 0 nd.length 6) p q idx fuel used mx nd { i with fresh:=i.fresh+26*k }∧fZ p (.mk gk gn gs' gts) at' rest (list.drop k) { i with fresh:=i.fresh+26*k }=T)
  (fun k s=>[(10,.bool false),(30,.int .i64 k)]) (fun k s=>s.1) (by decide +kernel) ⟨(st,qt),⟨h,hT⟩,aP.mk (by simp -implicitDefEqProofs only[aB,↓aX,seval])⟩ (fun k x s hx hlt bF hdr hinv=>?_) (fun s hge hinv=>?_)
 case refine_2=>
  simp -implicitDefEqProofs only[hge,aB,seval]
  obtain⟨hi,he⟩:=hinv
  rw[gU] at he
  unfold fZ at he
  subst he
  exact⟨s.1,aL.refl _,rfl,_,_,_,_,hi⟩
 obtain⟨st,qt⟩:=s
 obtain⟨h,hT⟩:=hinv
 simp only at h hT
 obtain⟨t1,t2,t3,t4,t5⟩:=h.sto.shape
 obtain⟨n1,n2,n3,n4,n5⟩:=h.acC.shape
 obtain⟨m1,m2,m3,m4,m5⟩:=h.acN.shape
 obtain⟨l1,l2,l3,l4,l5,l6⟩:=nY i.goals
 have hxl:=hl x (cL hx)
 obtain⟨cl,hcx⟩:∃cl,p[x]?=some cl:=⟨_,eQ hxl⟩
 obtain⟨rN,o9⟩:=hp cl (cL hcx)
 rw[hdr,fZ.eq_def] at hT
 simp only[hcx] at hT
 have hat:dG prog 40 (.slice (list.map nv)) (.int .i64 (k:Int))=some (.pptr (.int .i64 (x:Int))):=bJ (av:=nv) dC hx rfl
 have xT:=bJ (av:=bD) (P:=prog) eT hcx (gD cl)
 have hw:=bK (n:=(k:Int)+1)
 generalize hF:i.fresh+26*k=F at *
 have hFM:F+26≤M:=by have:=aG7 i.chs 0;omega
 have aS1:=bK (n:=(F:Int)+26)
 have eC:st S=some (.cells [.ptr c 0,.slice (p.map bD),.slice (q.map Tm.av),.bool idx,.bool false,.int .i64 fuel,.int .i64 used,.int .i64 F,d5 i.goals,qc,.mslice bN 0 nd.length 6,.int .i64 mx]):=h.cell
 obtain⟨⟨ck,cn,cs',cts⟩,bd⟩:=cl
 rw[mK] at xT
 simp -implicitDefEqProofs only[bF,aS,eC,hat,aS1,aB,↓aX,seval,mE]
 have h2:=h.put (gl:=i.goals) (F:=F+26) (fuel':=fuel) (used':=used) (mx':=mx) (cs:=[.ptr c 0,.slice (p.map bD),.slice (q.map Tm.av),.bool idx,.bool false,.int .i64 fuel,.int .i64 used,.int .i64 ((F:Int)+26),d5 i.goals,qc,.mslice bN 0 nd.length 6,.int .i64 mx]) rfl
 generalize st.aC S (.cells [.ptr c 0,.slice (p.map bD),.slice (q.map Tm.av),.bool idx,.bool false,.int .i64 fuel,.int .i64 used,.int .i64 ((F:Int)+26),d5 i.goals,qc,.mslice bN 0 nd.length 6,.int .i64 mx])=V at *
 simp only at h2
 have p7:V S=some (.cells [.ptr c 0,.slice (p.map bD),.slice (q.map Tm.av),.bool idx,.bool false,.int .i64 fuel,.int .i64 used,.int .i64 ((F:Int)+26),d5 i.goals,qc,.mslice bN 0 nd.length 6,.int .i64 mx]):=h2.cell
 refine wX [(0,1),(1,1),(2,1),(3,1),(4,1),(5,1),(6,1),(7,1),(8,1),(9,1),(10,1),(11,1),(12,1),(13,1),(14,0),(15,0),(16,1)] [0,1,2,3,4,5,6,7,8,9,10,11,12,13,16] (one S (.cells [.ptr c 0,.slice (p.map bD),.slice (q.map Tm.av),.bool idx,.bool false,.int .i64 fuel,.int .i64 used,.int .i64 ((F:Int)+26),d5 i.goals,qc,.mslice bN 0 nd.length 6,.int .i64 mx])) mixed rfl (f9 p7) ?_
 simp -implicitDefEqProofs only[uL,xT,aB,seval,mE]
 have hsh:=fun st=>L7 (F:=F) (by omega) (.mk ck cn cs' cts) rN.head st
 have hhd:a9 ((F+26:Nat):Int) (cU F (.mk ck cn cs' cts)):=(rN.cU F (.mk ck cn cs' cts) (by simp)).mono (by have:=rN.fr.1;omega)
 have htr:=h2.sto
 obtain⟨r,σ',add,U⟩:=sB (N:=F+26) hg (fun n u e=>(ho n u e).mono (by omega)) (hgo.mono (by omega)) hhd
 have htl:i.tr.length≤i.fresh:=hX.P8
 have hun:=DE (N:=F+26) hg (fun n u e=>(ho n u e).mono (by omega)) (.mk gk gn gs' gts) (cU F (.mk ck cn cs' cts)) (hgo.mono (by omega)) hhd c m qt i.tr V h2.sto (by omega)
 rw[U.eq] at hT hun
 simp only at hT hun
 have EI:=U.yD
 have hso:=U.uR
 clear U
 generalize hy:cU F (.mk ck cn cs' cts)=y at *
 obtain⟨yk,yn,ys,yt⟩:=y
 simp only[a7] at hsh hun ⊢
 refine(hsh _).to ?_
 simp -implicitDefEqProofs only[aB,seval]
 refine⟨f9 p7,?_⟩
 refine hun.mono ?_
 rintro _ s2 ⟨rfl,hP⟩
 obtain⟨qt2,h3⟩:=h2.post hP
 have A8:s2 S=some (.cells [.ptr c 0,.slice (p.map bD),.slice (q.map Tm.av),.bool idx,.bool false,.int .i64 fuel,.int .i64 used,.int .i64 ((F:Int)+26),d5 i.goals,qc,.mslice bN 0 nd.length 6,.int .i64 mx]):=h3.cell
 simp -implicitDefEqProofs only[aB,seval]
 refine⟨f9 A8,?_⟩
 refine aT (fun hr=>?_) (fun hr=>?_)
 · have hr':r=false:=by simpa using hr
   rw[aG (by rw[hr'];simp)] at hT
   simp -implicitDefEqProofs only[A8,aB,seval,mE]
   have hud:=MB σ' (i.tr++add) i.tr.length (by simp) c m qt2 s2 h3.sto (by
    have:=h3.sto
    have:add.length≤F+26:=BL hso.nodup hso.fK
    rw[dX];omega)
   refine hud.mono ?_
   rintro _ s4 ⟨rfl,qt4,hS4,hb4,hf4⟩
   simp -implicitDefEqProofs only[hw,aB,seval]
   have h5:=h3.P9 hS4 (fun b o hb e1 e2 _=>hf4 b o hb e1 e2) (fun b hb=>.inl (hb4 b hb))
   simp only[zD,CK,EI] at h5
   refine⟨(s4,qt4),⟨?_,?_⟩,aP.mk (by simp -implicitDefEqProofs only[aB,seval])⟩
   · rw[show i.fresh+26*(k+1)=F+26 by omega];exact h5
   · rw[show i.fresh+26*(k+1)=F+26 by omega];exact hT
 have hr':r=true:=by simpa using hr
 have aSE:nd.length=i.nn:=h3.ndl
 rw[aK hr'] at hT
 have EM:prog.underlying 181=some (.slice 224):=by kernel_rfl
 have NZ:prog.underlying 182=some (.slice 215):=by kernel_rfl
 have hlC:=h3.acC.len EM
 have hlN:=h3.acN.len NZ
 rw[aE] at hlC
 rw[h3.ndl] at hlN
 simp only at hlC hlN
 have aFS:=n6 (P:=prog) (b:=bN) (w:=6) (i:=at') AK (len:=nd.length) (by rw[h3.ndl];exact ha)
 simp -implicitDefEqProofs only[aE,A8,hlC,hw,n1,aB,seval,mE]
 refine aT (fun h7=>?_) (fun h7=>?_)
 · have h':k+1<list.length:=by simp at h7;omega
   have hdn:list.drop (k+1)≠[]:=by intro e;have:=rF List.length e;simp at this;omega
   rw[aG hdn] at hT
   have hsl:=fun(φ:AF) (d:Nat) (h:φ d=.int .i64 ((k:Int)+1))=>aIS h' h
   refine wX [(0,1),(1,1),(2,1),(3,1),(4,1),(5,1),(6,1),(7,1),(8,1),(9,1),(10,1),(11,1),(12,1),(13,1),(14,1),(15,1),(16,1),(17,1),(18,1),(19,1),(20,0),(21,1),(22,1),(23,2)] [0,1,2,3,4,5,6,7,8,9,10,11,12,13,14,15,16,17,18,19,21,22] (one S (.cells [.ptr c 0,.slice (p.map bD),.slice (q.map Tm.av),.bool idx,.bool false,.int .i64 fuel,.int .i64 used,.int .i64 ((F:Int)+26),d5 i.goals,qc,.mslice bN 0 nd.length 6,.int .i64 mx])) mixed rfl (f9 A8) ?_
   simp -implicitDefEqProofs only[hsl,hw,g3,g4,n1,m1,uL,aB,seval,mE]
   refine iF.append xM HA HD rfl (by decide) h3.acC rfl (aTD ⟨.mk gk gn gs' gts,at',rest,list.drop (k+1),i.tr.length,nd.length⟩) (by rw[aE];simp only;omega) (fun qc5 s5 rL hf hn=>?_)
   have aRG:(i.chs.map p9)++ [p9 ⟨.mk gk gn gs' gts,at',rest,list.drop (k+1),i.tr.length,nd.length⟩]=(i.chs++ [(⟨.mk gk gn gs' gts,at',rest,list.drop (k+1),i.tr.length,nd.length⟩:IC)]).map p9:=by simp
   have rL:=aRG▸rL
   obtain⟨c1,c2,c3,c4,c5⟩:=rL.shape
   have hS5:s5 S=s2 S:=hf S h3.parts.2.2.2.2.1 (fun hb=>by
    rcases hn S hb with h' | h'
    · exact h3.parts.2.2.2.2.1 h'
    · rw[A8] at h';cases h')
   have aF0:=hS5.trans A8
   have aRV:=f9 aF0
   simp -implicitDefEqProofs only[aS,aF0,c4,c5,m1,aA.aH,aB,seval,mE]
   refine⟨aRV,?_⟩
   have h5:=h3.aUW rL hf hn (cs:=[.ptr c 0,.slice (p.map bD),.slice (q.map Tm.av),.bool idx,.bool false,.int .i64 fuel,.int .i64 used,.int .i64 ((F:Int)+26),d5 i.goals,qc5,.mslice bN 0 nd.length 6,.int .i64 mx]) rfl
   generalize s5.aC S (.cells [.ptr c 0,.slice (p.map bD),.slice (q.map Tm.av),.bool idx,.bool false,.int .i64 fuel,.int .i64 used,.int .i64 ((F:Int)+26),d5 i.goals,qc5,.mslice bN 0 nd.length 6,.int .i64 mx])=V5 at *
   rw[show(⟨.mk gk gn gs' gts,at',rest,list.drop (k+1),i.tr.length,nd.length⟩:IC)=⟨.mk gk gn gs' gts,at',rest,list.drop (k+1),i.tr.length,i.nn⟩ by rw[aSE]] at h5
   obtain⟨csN,hbN,hcN⟩:=h5.nodeAt
   obtain⟨c1,c2,c3,c4,c5⟩:=(h5).acC.shape
   have hSN:S≠bN:=fun e=>(h5).parts.2.2.2.2.2.1 (by rw[e];simp [dD])
   have rM:=h5.cell
   simp only[gE] at rM
   rw[show((F+26:Nat):Int)=(F:Int)+26 from rfl] at rM
   simp -implicitDefEqProofs only[aS,aE,rM,hbN,hSN,aFS,xT,aB,seval,mE]
   refine⟨by omega,?_⟩
   obtain⟨nd6,h6⟩:=(h5).aIK (x:=.int .i64 (x:Int)) (k:=at'*6+5) rfl hbN (by omega)
   have NS:=h6.ndl
   simp only at NS
   rw[show aS csN (at'*6+5) [.int .i64 (x:Int)]=List.take (at'*6+5) csN++ [AV.int IntKind.i64 (x:Int)]++List.drop (at'*6+5+1) csN from rfl] at h6
   generalize aA.aC _ bN (.cells (List.take (at'*6+5) csN++ [AV.int IntKind.i64 (x:Int)]++List.drop (at'*6+5+1) csN))=V6 at *
   have kU:=h6.cell
   simp only[gE] at kU
   rw[show((F+26:Nat):Int)=(F:Int)+26 from rfl] at kU
   refine tL (σ:=Unit) [1000000] [0,2,3,4,6,10,11,12,13,14,15,16,28,29,30,31,32,33,34,35,36,37,38,39,40,41,42,43,44,45,46,47,48,49,50,51,52,53,54,55,56,57,58,59,60,61,62,63,64,65,66,67,68,70,71,72,73,74,75,76,77,78,79,80,81,82,83,84,85,86,87,88,89,90,91,92,93,94,95,96,97,98,99,100,101,102,103,104,105,106,107,108,109,110,111,112,113,114,115,116,117,118,119] bd 4 17 (fun j _=>((bd.take j).map (cU F)).map Tm.av) (fun _ _=>True) (fun j _=>[(120,.int .i64 j)]) (fun _ _=>V6) (fun j _ _ e he=>by simp only[cE] at he;obtain⟨t,_,rfl⟩:=he;exact⟨Tm.eO _,aN _⟩) (by decide +kernel) ⟨(),0,trivial,fun h=>absurd rfl h,aP.mk (by simp -implicitDefEqProofs only[kP,lC,bG,aB,↓aX,seval])⟩ (fun j y5 _ b5 hx5 aR8 NP aRQ NN hb5=>?_) (fun _ b5 NL NN=>?_)
   · have hw5:=wrap64 (n:=(j:Int)+1) (by simp only at o9;omega) (by simp only at o9;omega)
     have M4:=bJ (av:=Tm.av) (P:=prog) aQ hx5 (aN y5)
     have EH:(((bd.take j).map (cU F)).map Tm.av).length=j:=by simp only[aE,dY];omega
     have hyb:=rN.body y5 (cL hx5)
     simp -implicitDefEqProofs only[NP,M4,bU,aN,Tm.d8,Tm.eO,aB,↓aX,seval,mE]
     refine(L7 (F:=F) (by omega) y5 hyb.1 _).to ?_
     simp -implicitDefEqProofs only[bU,aN,Tm.eO,aB,seval,mE]
     refine fT aQ bM bO rfl rfl (g9 (aN _) (Tm.d8 _)) (iC _) hb5 (by simp only[EH,bA,bS];simp only at o9;omega) (by simp only[EH,bA,bS];simp only at o9;omega) (fun b' hb'=>?_)
     rw[show(((bd.take j).map (cU F)).map Tm.av)++ [(cU F y5).av]=((bd.take (j+1)).map (cU F)).map Tm.av by rw[f8,hx5];simp] at hb' ⊢
     simp -implicitDefEqProofs only[aB,seval]
     exact⟨(),b',hb',aP.mk (by simp -implicitDefEqProofs only[hw5,aB,seval])⟩
   · have x7:=fun st=>L6 (bd.map (cU F)) i.chs.length at' rest (by simp only[aE];simp only at o9;omega) st
     simp -implicitDefEqProofs only[NL,g7,fQ,t7,nW,jA,rJ,A0,HU,aE9,nC,eM,aFJ,aB,seval]
     refine(x7 _).to ?_
     have h7:=h6.put (gl:=(bd.map (cU F)).map (fun t=>(⟨t,i.chs.length,at'⟩:IG))++rest) (F:=F+26) (fuel':=fuel) (used':=used) (mx':=mx) rfl
     simp only[gE] at h7
     rw[show((F+26:Nat):Int)=(F:Int)+26 from rfl] at h7
     have hgl:(bd.map (cU F)).map (fun t=>(⟨t,i.chs.length,at'⟩:IG))++rest=bd.map (fun t=>(⟨cU F t,i.chs.length,at'⟩:IG))++rest:=by rw[vF];try rfl
     rw[hgl] at h7 ⊢
     generalize bd.map (fun t=>(⟨cU F t,i.chs.length,at'⟩:IG))++rest=NG at *
     obtain⟨u1,u2,u3,u4,u5,u6⟩:=nY NG
     have EG:=h7.acC.len EM
     simp only[aE] at EG
     simp -implicitDefEqProofs only[aS,kU,u4,u5,aB,seval,mE]
     generalize aA.aC V6 S _=V7 at h7 ⊢
     have mM:=h7.cell
     simp only[gE] at mM
     rw[show((F+26:Nat):Int)=(F:Int)+26 from rfl] at mM
     refine wX [(0,1),(1,1),(2,1),(3,1),(4,1),(5,1),(6,1),(7,1),(8,1),(9,1),(10,0),(11,1),(12,1),(13,2)] [0,1,2,3,4,5,6,7,8,9,11,12] _ mixed rfl (f9 mM) ?_
     simp -implicitDefEqProofs only[aS,mM,EG,c1,uL,aB,seval,mE]
     refine⟨f9 mM,?_⟩
     subst hT
     exact⟨_,aL.refl _,rfl,qt2,_,_,nd6,h7.put (gl:=NG) (F:=F+26) rfl⟩
 · have h':list.drop (k+1)= []:=F8 (by simp at h7;omega)
   rw[aK h'] at hT
   obtain⟨csN,hbN,hcN⟩:=h3.nodeAt
   obtain⟨c1,c2,c3,c4,c5⟩:=(h3).acC.shape
   have hSN:S≠bN:=fun e=>(h3).parts.2.2.2.2.2.1 (by rw[e];simp [dD])
   have rM:=h3.cell
   simp only[gE] at rM
   rw[show((F+26:Nat):Int)=(F:Int)+26 from rfl] at rM
   simp -implicitDefEqProofs only[aS,aE,rM,hbN,hSN,aFS,xT,m1,aB,seval,mE]
   refine⟨by omega,?_⟩
   obtain⟨nd6,h6⟩:=(h3).aIK (x:=.int .i64 (x:Int)) (k:=at'*6+5) rfl hbN (by omega)
   have NS:=h6.ndl
   simp only at NS
   rw[show aS csN (at'*6+5) [.int .i64 (x:Int)]=List.take (at'*6+5) csN++ [AV.int IntKind.i64 (x:Int)]++List.drop (at'*6+5+1) csN from rfl] at h6
   generalize aA.aC _ bN (.cells (List.take (at'*6+5) csN++ [AV.int IntKind.i64 (x:Int)]++List.drop (at'*6+5+1) csN))=V6 at *
   have kU:=h6.cell
   simp only[gE] at kU
   rw[show((F+26:Nat):Int)=(F:Int)+26 from rfl] at kU
   refine tL (σ:=Unit) [1000000] [0,2,3,4,6,10,11,12,13,14,15,16,28,29,30,31,32,33,34,35,36,37,38,39,40,41,42,43,44,45,46,47,48,49,50,51,52,53,54,55,56,57,58,59,60,61,62,63,64,65,66,67,68,70,71,72,73,74,75,76,77,78,79,80,81,82,83,84,85,86,87,88,89,90,91,92,93,94,95,96,97,98,99,100,101,102,103,104,105,106,107,108,109,110,111,112,113,114,115,116,117,118,119] bd 4 17 (fun j _=>((bd.take j).map (cU F)).map Tm.av) (fun _ _=>True) (fun j _=>[(120,.int .i64 j)]) (fun _ _=>V6) (fun j _ _ e he=>by simp only[cE] at he;obtain⟨t,_,rfl⟩:=he;exact⟨Tm.eO _,aN _⟩) (by decide +kernel) ⟨(),0,trivial,fun h=>absurd rfl h,aP.mk (by simp -implicitDefEqProofs only[kP,lC,bG,aB,↓aX,seval])⟩ (fun j y5 _ b5 hx5 aR8 NP aRQ NN hb5=>?_) (fun _ b5 NL NN=>?_)
   · have hw5:=wrap64 (n:=(j:Int)+1) (by simp only at o9;omega) (by simp only at o9;omega)
     have M4:=bJ (av:=Tm.av) (P:=prog) aQ hx5 (aN y5)
     have EH:(((bd.take j).map (cU F)).map Tm.av).length=j:=by simp only[aE,dY];omega
     have hyb:=rN.body y5 (cL hx5)
     simp -implicitDefEqProofs only[NP,M4,bU,aN,Tm.d8,Tm.eO,aB,↓aX,seval,mE]
     refine(L7 (F:=F) (by omega) y5 hyb.1 _).to ?_
     simp -implicitDefEqProofs only[bU,aN,Tm.eO,aB,seval,mE]
     refine fT aQ bM bO rfl rfl (g9 (aN _) (Tm.d8 _)) (iC _) hb5 (by simp only[EH,bA,bS];simp only at o9;omega) (by simp only[EH,bA,bS];simp only at o9;omega) (fun b' hb'=>?_)
     rw[show(((bd.take j).map (cU F)).map Tm.av)++ [(cU F y5).av]=((bd.take (j+1)).map (cU F)).map Tm.av by rw[f8,hx5];simp] at hb' ⊢
     simp -implicitDefEqProofs only[aB,seval]
     exact⟨(),b',hb',aP.mk (by simp -implicitDefEqProofs only[hw5,aB,seval])⟩
   · have x7:=fun st=>L6 (bd.map (cU F)) i.chs.length at' rest (by simp only[aE];simp only at o9;omega) st
     simp -implicitDefEqProofs only[NL,g7,fQ,t7,nW,jA,A0,HU,aE9,nC,eM,aFJ,aB,seval]
     refine(x7 _).to ?_
     have h7:=h6.put (gl:=(bd.map (cU F)).map (fun t=>(⟨t,i.chs.length,at'⟩:IG))++rest) (F:=F+26) (fuel':=fuel) (used':=used) (mx':=mx) rfl
     simp only[gE] at h7
     rw[show((F+26:Nat):Int)=(F:Int)+26 from rfl] at h7
     have hgl:(bd.map (cU F)).map (fun t=>(⟨t,i.chs.length,at'⟩:IG))++rest=bd.map (fun t=>(⟨cU F t,i.chs.length,at'⟩:IG))++rest:=by rw[vF];try rfl
     rw[hgl] at h7 ⊢
     generalize bd.map (fun t=>(⟨cU F t,i.chs.length,at'⟩:IG))++rest=NG at *
     obtain⟨u1,u2,u3,u4,u5,u6⟩:=nY NG
     have EG:=h7.acC.len EM
     simp only[aE] at EG
     simp -implicitDefEqProofs only[aS,kU,u4,u5,aB,seval,mE]
     generalize aA.aC V6 S _=V7 at h7 ⊢
     have mM:=h7.cell
     simp only[gE] at mM
     rw[show((F+26:Nat):Int)=(F:Int)+26 from rfl] at mM
     refine wX [(0,1),(1,1),(2,1),(3,1),(4,1),(5,1),(6,1),(7,1),(8,1),(9,1),(10,0),(11,1),(12,1),(13,2)] [0,1,2,3,4,5,6,7,8,9,11,12] _ mixed rfl (f9 mM) ?_
     simp -implicitDefEqProofs only[aS,mM,EG,c1,uL,aB,seval,mE]
     refine⟨f9 mM,?_⟩
     subst hT
     exact⟨_,aL.refl _,rfl,qt2,_,_,nd6,h7.put (gl:=NG) (F:=F+26) rfl⟩
theorem aS7(p:List Cl)(s:IS):gC p s.chs.length s=match s.chs.getLast? with
 | none=>none
 | some c=>if(fZ p c.goal c.node c.rest c.list (s.pop c)).1=true then some (fZ p c.goal c.node c.rest c.list (s.pop c)).2 else gC p (s.chs.length - 1) (fZ p c.goal c.node c.rest c.list (s.pop c)).2:=by
 obtain⟨gl,σ,tr,chs,F,nn⟩:=s
 cases chs with
 | nil=>rfl
 | cons c l=>rw[bA,gC];try rfl
structure QL (p:List Cl) (M:Nat) (st0:aA) (S c m:Nat) (q:List Tm) (idx:Bool) (fuel used:Int) (T:Option IS) (st:aA) (qt qc qn:AV) (mx:Int) (nd:List AV) (i:IS) (cs:List RC):Prop where
 s:cW st0 st S c m qt qc qn p q idx fuel used mx nd i
 r:gM i.fresh cs i.chs i.σ i.tr
 x:IX p M i
 t:gC p i.chs.length i=T
 n:i.chs.length≤524288∧i.nn≤524288
def QM(st0 st':aA)(S c m:Nat)(p:List Cl)(q:List Tm)(idx:Bool)(fuel used:Int)(r:AV):Option IS→Prop
 | some i'=>r=.int .i64 (-1)∧∃qt qc qn mx nd,cW st0 st' S c m qt qc qn p q idx fuel used mx nd i'
 | none=>r=.int .i64 0∧∃qt qc qn mx nd i',cW st0 st' S c m qt qc qn p q idx fuel used mx nd i'
abbrev FN:=zi tI_3 (zi zI_3 (zi aZ (zi tI_40 (zi zI_40 (zi dC (zi fH (zi fJ (zi fL (zi tI_52 (zi zI_52 (zi bX (zi bY (zi bZ (zi b7 (zi bV (zi tI_150 (zi zI_150 (zi tI_178 (zi zI_178 (zi tI_180 (zi zI_180 (zi tI_181 (zi zI_181 (zi xM (zi HA (zi HD (zi QC (zi tI_182 (zi zI_182 (zi AK (zi HB (zi HE (zi QD (zi tI_184 (zi zI_184 (zi DR (zi DS (zi DV (zi DW (zi DX (zi DY (zi DZ (zi D0 (zi D1 (zi D3 (zi DT (zi DU (zi C8 (zi tI_224 (zi zI_224 (zi aEQ (zi aER (zi aES (zi aET (zi aEU (zi aEV RZ))))))))))))))))))))))))))))))))))))))))))))))))))))))))
set_option maxHeartbeats 2000000 in
theorem LX{p:List Cl}(hp:∀c∈p,fX c∧c.2.length≤6){M:Nat}(hM:M≤16777216){st0:aA}{S c m:Nat}{q:List Tm}{idx:Bool}{fuel used:Int}{T:Option IS}(st:aA)(qt qc qn:AV)(mx:Int)(nd:List AV)(i:IS)(cs:List RC)
 (hI:QL p M st0 S c m q idx fuel used T st qt qc qn mx nd i cs) :
 aD prog 153 [.ptr S 0] st (fun r st'=>QM st0 st' S c m p q idx fuel used r T):=by
 refine aD.nB ?_
 refine wF [1000000] 1 func153 ntmps153 rfl rfl ?_
 intro _
 simp -implicitDefEqProofs only[aB,seval]
 refine mW (σ:=aA×AV×AV×AV×Int×List AV×IS×List RC) [1000000] [0] (fun x=>QL p M st0 S c m q idx fuel used T x.1 x.2.1 x.2.2.1 x.2.2.2.1 x.2.2.2.2.1 x.2.2.2.2.2.1 x.2.2.2.2.2.2.1 x.2.2.2.2.2.2.2) (fun x=>[(2,.int .i64 0)]) (fun x=>x.1) (fun x=>x.2.2.2.2.2.2.1.chs.length) (by decide +kernel) ⟨(st,qt,qc,qn,mx,nd,i,cs),hI,aP.mk (by simp -implicitDefEqProofs only[aB,seval])⟩ ?_
 clear hI
 rintro⟨st,qt,qc,qn,mx,nd,i,cs⟩ ⟨hs,hr,hx,ht,hn1,hn2⟩
 simp only at hs hr hx ht hn1 hn2
 simp only
 obtain⟨gl,τ,tr,ch,F,nn⟩:=i
 obtain⟨t1,t2,t3,t4,t5⟩:=hs.sto.shape
 obtain⟨n1,n2,n3,n4,n5⟩:=hs.acC.shape
 obtain⟨m1,m2,m3,m4,m5⟩:=hs.acN.shape
 obtain⟨l1,l2,l3,l4,l5,l6⟩:=nY gl
 have EM:prog.underlying 181=some (.slice 224):=by kernel_rfl
 have hlC:=hs.acC.len EM
 rw[aE] at hlC
 simp only at hlC hr hx ht hn1 hn2
 have eC:=hs.cell
 simp only[gE] at eC
 replace ht:=(aS7 p ⟨gl,τ,tr,ch,F,nn⟩).symm.trans ht
 simp only at ht
 cases hr with
 | nil=>
  simp only[List.getLast?_nil] at ht
  subst ht
  simp only[bS] at hlC
  simp -implicitDefEqProofs only[eC,hlC,n1,t0,↓F7,List.contains,List.elem,qO,gG,sub,wW,↓reduceIte,reduceCtorEq,FN]
  refine aT (fun h=>absurd h (by decide)) (fun h=>?_)
  simp -implicitDefEqProofs only[aB,seval]
  exact⟨st,aL.refl _,rfl,_,_,_,_,_,_,hs⟩
 | @snoc cs ds cR d _ _ C h1 h2=>
  obtain⟨hP,hMl,hnt,htn,htr,hli⟩:=hx.pop
  have e3:(IS.pop ⟨gl,τ,tr,ds++ [d],F,nn⟩ d)=⟨gl,τ.out (tr.drop d.eJ),tr.take d.eJ,ds,F,d.taken⟩:=by simp only[IS.pop,KV]
  simp only[List.getLast?_append,List.getLast?_singleton,Option.some_or,e3] at ht
  obtain⟨bC,csC,rfl,hbC,aR6,htk⟩:=hs.acC.at (N1 _) (i:=ds.length) (e:=p9 d) (by simp)
  have hlm:((ds++ [d]).map p9).length=ds.length+1:=by simp
  rw[hlm] at hs eC hlC
  have hSb:S≠bC:=fun e=>hs.parts.2.2.2.2.1 (by rw[e];simp [dD])
  have hdl:ds.length+1≤524288:=by simp only[dX,bA,bS] at hn1;omega
  have hw:IntKind.i64.wrap ((ds.length:Int)+1 - 1)=(ds.length:Int):=by rw[wrap64 (by omega) (by omega)];omega
  have aQ9:=n6 (P:=prog) (b:=bC) (w:=9) (i:=ds.length) xM (len:=ds.length+1) (by omega)
  have ED:=fun(φ:AF) (dd:Nat) (h:φ dd=.int .i64 (ds.length:Int))=>O4 (b:=bC) (n:=ds.length+1) (k:=ds.length) xM h (by omega)
  obtain⟨⟨dk,dn,ds',dts⟩,G8,G9,MM,DL,AI⟩:=d
  rw[aGT] at htk
  simp only at htn htr hnt hli hMl hP
  obtain⟨g1,g2,g3,g4,g5,g6⟩:=nY G9
  have aSY:(csC.drop (ds.length*9)).take 9= [.int .i64 dk,.int .i64 dn,.str ds',.slice (dts.map Tm.av),.int .i64 (G8:Int),d5 G9,.slice (MM.map nv),.int .i64 (DL:Int),.int .i64 (AI:Int)]:=htk
  simp -implicitDefEqProofs only[dX,bA,bS,eC,hlC,aB,seval,FN]
  refine aT (fun h=>?_) (fun h=>absurd h (by simp))
  simp -implicitDefEqProofs only[aS,dX,bA,bS,eC,hlC,hbC,aR6,aSY,aQ9,ED,hw,g5,aB,↓aX,seval,FN]
  have hs2:=hs.TX (k:=ds.length) (gl:=gl) (by simp only[dX,bA,bS];omega) (cs:=gE c p q idx fuel used F (d5 gl) (.mslice bC 0 ds.length 9) qn mx) rfl
  simp only[CK,gE] at hs2
  generalize aA.aC st S _=V at hs2 ⊢
  have p7:=hs2.cell
  simp only[gE,vV] at p7 hs2
  have htl:=hs2.sto.eJ
  refine wX [(0,1),(1,1),(2,1),(3,1),(4,1),(5,1),(6,2)] [0,1,2,3,4,5] _ mixed rfl (f9 p7) ?_
  simp -implicitDefEqProofs only[uL,aB,seval,FN]
  refine(MB τ tr DL htr c m qt V hs2.sto (by have:=hx.P8;have:=hx.phi;simp only at *;omega)).mono ?_
  rintro _ s4 ⟨rfl,qt4,hS4,hb4,hf4⟩
  have hs4:=hs2.P9 hS4 (fun b o hb e1 e2 _=>hf4 b o hb e1 e2) (fun b hb=>.inl (hb4 b hb))
  have NC:=hs4.cell
  simp only[gE] at NC
  obtain⟨q1,q2,q3,q4,q5⟩:=hs4.sto.shape
  have aRL:=fun(φ:AF) (dd:Nat) (h:φ dd=.int .i64 (AI:Int))=>aIP AK hs4.acN h (by rw[hs4.ndl];exact htn)
  simp -implicitDefEqProofs only[aB,seval]
  have hAN:=hs4.acN.take (k:=AI) (by rw[hs4.ndl];exact htn) hs4.ndw
  obtain⟨e1',e2',e3',e4',e5'⟩:=hAN.shape
  have hs6:=hs4.aPM (k:=AI) htn rfl
  simp only[gE] at hs6
  obtain⟨ρ,Sm,e1,hok,hG,e2⟩:=h1
  simp only at e1 e2
  have EL:=TL hp (show M≤268435456 by omega) hs6 (.mk dk dn ds' dts) G8 G9 MM Sm.g2 Sm.o2 (e1▸Sm.yG hok) hli (by omega) hnt hP hMl (by first | omega | (simp only;omega)) (by first | omega | (simp only;omega))
  simp only[a7] at EL
  have EJ:=KG (fun c h=>(hp c h).1) (nn:=AI) (at':=G8) (tr:=tr.take DL) hok hG cR.left F gl Sm C
  rw[←e1,←e2] at EJ
  refine wX [(0,1),(1,1),(2,1),(3,1),(4,1),(5,1),(6,1),(7,1),(8,1),(9,1),(10,2)] [0,1,2,3,4,5,6,7,8,9] _ mixed rfl (f9 NC) ?_
  simp -implicitDefEqProofs only[aS,NC,aRL,e4',e5',m1,g1,g2,uL,aB,seval,FN]
  refine EL.mono ?_
  rintro _ s7 ⟨rfl,qt7,qc7,mx7,nd7,hs7⟩
  simp -implicitDefEqProofs only[aB,seval]
  refine aT (fun h=>?_) (fun h=>?_)
  · simp -implicitDefEqProofs only[aB,seval]
    rw[aK h] at ht
    subst ht
    exact⟨s7,aL.refl _,rfl,_,_,_,_,_,hs7⟩
  · rw[aG (by rw[h];simp)] at ht
    cases hrt:gR p cs cR.goal cR.rest cR.σ cR.N cR.left with
    | some s=>
     rw[e2,hrt] at EJ
     obtain⟨i2,k1,_⟩:=EJ
     rw[←e2] at k1
     rw[k1] at h
     cases h
    | none=>
     rw[e2,hrt] at EJ
     obtain⟨F',hF,k1⟩:=EJ
     rw[←e2] at k1
     have hX7:=IM (fun c h=>(hp c h).1) (rest:=G9) MM _ hli (at':=G8) (by simp only;exact hnt) (by simp only;exact hMl) hP Sm.g2 Sm.o2 (e1▸Sm.yG hok)
     rw[k1] at hs7 ht hX7
     simp -implicitDefEqProofs only[aB,seval]
     refine⟨(s7,qt7,qc7,_,mx7,nd7,⟨gl,τ.out (tr.drop DL),tr.take DL,ds,F',AI⟩,cs),by simp only;omega,⟨hs7,C.mono hF,hX7,?_,by simp only;omega,by simp only;omega⟩,aP.mk (by simp -implicitDefEqProofs only[aB,seval])⟩
     simpa using ht
theorem OS{p:List Cl}(hp:∀c∈p,fX c∧c.2.length≤6){B:Nat}(hB:B≤524288){cs:List RC}{goal:Tm}{rest:List RG}{σ:Sub}{N:Nat}(hg:cD σ)(ho:cF (a9 N) σ)(hd:∀n,¬(0≤n∧n<(N:Int))→σ n=none)
 (hgo:a9 N goal) (hr:∀g∈rest,a9 N g.t∧g.t.k=3) (h0:0<N) (hN:N+26≤B) (hrl:rest.length+26≤B) (hcl:cs.length+1≤B) (hcs:∀c∈cs,vJ p c∧c.N+26≤B∧c.rest.length+26≤B∧0<c.N) :
 ∀(left:List Nat),(∀i∈left,i<p.length)→left.length≤1048576→∀s,gR p cs goal rest σ N left=some s→oK p B s
 | [],_,_,s,h=>by simp [gR] at h
 | i::l,hle,hll,s,h=>by
  have hil:=hle i (by simp)
  obtain⟨x,hx⟩:∃x,p[i]?=some x:=⟨_,eQ hil⟩
  obtain⟨hX,h6⟩:=hp x (cL hx)
  have hl':∀j∈l,j<p.length:=fun j hj=>hle j (by simp [hj])
  rw[gR.eq_def] at h
  simp only[hx] at h
  split at h
  case isFalse=>exact OS hp hB hg ho hd hgo hr h0 hN hrl hcl hcs l hl' (by simp at hll;omega) s h
  cases h
  have hfr:=hX.fr.1
  have hsh:=hX.cU N
  obtain⟨r,σ',tr,U⟩:=sB (N:=N+nD x) hg (ho.upN (by omega)) (hgo.mono (by omega)) (hsh x.1 (by simp))
  rw[U.eq]
  have S:=U.uR
  refine⟨S.gA,S.ok,fun n hn=>?_,?_,by simp only;omega,by simp only;omega,?_,?_,?_⟩
  · simp only at hn ⊢
    rw[S.aV n (fun h=>hn (S.fK n h))]
    exact hd n (fun h=>hn (by omega))
  · intro g hg'
    simp only[dQ,cE] at hg'
    rcases hg' with ⟨t,ht,rfl⟩ | hg'
    · exact⟨hsh t (List.mem_cons_of_mem _ ht),by rw[aIN];exact(hX.body t ht).2⟩
    · exact⟨(hr g hg').1.mono (by simp only;omega),(hr g hg').2⟩
  · simp only[dX,aE];omega
  · simp only
    split
    · omega
    · simp only[dX,bA,bS];omega
  · simp only
    split
    · exact hcs
    · intro c hc
      rcases dQ.1 hc with hc | hc
      · exact hcs c hc
      · simp only[cP,dI,dN] at hc
        subst hc
        exact⟨⟨hg,ho,hd,hgo,hr,hl',by simp only;omega,by simp only;simp at hll;omega⟩,hN,hrl,h0⟩
theorem aUZ(p:List Cl)(chs:List RC):eV p chs.length chs=match chs.getLast? with
 | none=>none
 | some c=>match gR p chs.dropLast c.goal c.rest c.σ c.N c.left with
  | some s=>some s
  | none=>eV p chs.dropLast.length chs.dropLast:=by
 cases chs with
 | nil=>rfl
 | cons c l=>
  rw[bA,eV]
  have:(c::l).dropLast.length=l.length:=by simp
  rw[this]
  try rfl
theorem aH5{p:List Cl}(hp:∀c∈p,fX c∧c.2.length≤6){B:Nat}(hB:B≤524288):∀(n:Nat) (chs:List RC),chs.length≤B→(∀c∈chs,vJ p c∧c.N+26≤B∧c.rest.length+26≤B∧0<c.N)→∀s,eV p n chs=some s→oK p B s
 | 0,_,_,_,s,h=>by simp [eV] at h
 | n+1,chs,hl,hc,s,h=>by
  rw[eV] at h
  split at h
  · cases h
  · rename_i c nG
    have hm:=KZ nG
    have hne:chs≠[]:=by rintro rfl;simp at hm
    have hdl:chs.dropLast.length+1=chs.length:=by
     have:=List.length_pos_iff.2 hne
     simp;omega
    have hcd:∀c∈chs.dropLast,vJ p c∧c.N+26≤B∧c.rest.length+26≤B∧0<c.N:=fun c h=>hc c (KW _ h)
    obtain⟨k,h1,h2,h3⟩:=hc c hm
    split at h
    · rename_i s' hs
      cases h
      exact OS hp hB k.gA k.ok k.tX k.goal k.rest h3 h1 h2 (by omega) hcd c.left k.left k.aTW s hs
    · exact aH5 hp hB n _ (by omega) hcd s h
theorem oK.up{p:List Cl}{B C:Nat}{s:RS}(h:oK p B s)(hC:B≤C):oK p C s:=
 ⟨h.gA,h.ok,h.tX,h.goals,h.pos,by have:=h.hN;omega,by have:=h.gl;omega,by have:=h.oR;omega,fun c hc=>by
  obtain⟨h1,h2,h3,h4⟩:=h.chs c hc
  exact⟨h1,by omega,by omega,h4⟩⟩
theorem oK.back{p:List Cl}(hp:∀c∈p,fX c∧c.2.length≤6){B:Nat}(hB:B≤524288){s s':RS}(h:oK p B s)(e:eV p s.chs.length s.chs=some s'):oK p B s':=
 aH5 hp hB _ _ h.oR h.chs s' e
theorem HV{N:Nat}{σ:Sub}(hg:cD σ)(ho:cF (a9 N) σ){t:Tm}(ht:a9 N t)(hf:eA (t.aJ (rs σ))=true):a9 N (t.aJ (rs σ)):=by
 obtain⟨rk,B,G⟩:=hg.rs
 unfold eA at hf
 simp only[cK,bL] at hf
 exact⟨ht.1.aJ fun v hv=>G.kZ ho.kZ v (ht.1.2.2 v hv).1 (ht.1.2.2 v hv).2,hf.2⟩
theorem oK.step{p:List Cl}(hp:∀c∈p,fX c∧c.2.length≤6)(hpl:p.length≤1048576){B:Nat}(hB:B+26≤524288){cnd:Tm→List Nat→List Nat}(hc:∀t l,(∀i∈cnd t l,i∈l)∧(cnd t l).length≤l.length){s s':RS}{g:RG}{rest:List RG}(hgs:s.goals=g::rest)(h:oK p B s)
 (e:gQ p cnd s g rest=.go s'):oK p (B+26) s':=by
 have hgm:g∈s.goals:=by rw[hgs];simp
 have hrm:∀x∈rest,x∈s.goals:=fun x hx=>by rw[hgs];simp [hx]
 have hgl:=h.gl
 rw[hgs,bA] at hgl
 have hU:=h.up (C:=B+26) (by omega)
 unfold gQ at e
 split at e
 · cases e
 rename_i fY
 have NJ:eA (g.t.aJ (rs s.σ))=true:=by simpa using fY
 have hok:=HV h.gA h.ok (h.goals g hgm).1 NJ
 generalize g.t.aJ (rs s.σ)=t at *
 split at e
 · cases e
   exact⟨hU.gA,hU.ok,hU.tX,fun x hx=>hU.goals x (hrm x hx),hU.pos,hU.hN,by simp only;omega,by simp only[dY];have:=hU.oR;omega,fun c hc=>hU.chs c (nP hc)⟩
 split at e
 · split at e
   · cases e
     have S:=JH h.gA h.ok t.s t.ts fun x hx=>by
      obtain⟨k,n,s',ts⟩:=t
      by_cases hk:k=1
      · obtain⟨_,_,_,h2⟩:=(show cB s.N (.mk 1 n s' ts) from hk▸hok.1).var
        simp only[Tm.ts] at hx
        rw[h2] at hx;cases hx
      · exact qD _ (.mk k n s' ts) hk hok x hx
     exact⟨S.gA,S.ok,fun n hn=>by simp only at hn ⊢;rw[S.aV n (fun h=>hn (S.fK n h))];exact hU.tX n hn,fun x hx=>hU.goals x (hrm x hx),hU.pos,hU.hN,by simp only;omega,hU.oR,hU.chs⟩
   · split at e<;>cases e
 split at e
 · cases e
 split at e
 case h_2=>cases e
 rename_i s2 hs
 cases e
 obtain⟨c1,c2⟩:=hc t (eU p t)
 have hfl:(eU p t).length≤p.length:=by rw[HX];exact HY p t p.length
 refine OS hp (by omega) h.gA h.ok h.tX hok (fun x hx=>h.goals x (hrm x hx)) h.pos (by have:=h.hN;omega) (by omega) (by have:=h.oR;omega) hU.chs _ (fun i hi=>?_) (by omega) s' hs
 have:=c1 i hi
 unfold eU at this
 have:=(List.mem_filter.1 this).1
 exact vG.1 this
def mJ(n:Nat)(l:List RG):Prop:=l.Pairwise (fun a b=>b.aV≤a.aV)∧∀g∈l,g.aV≤n
theorem mJ.up{n m:Nat}{l:List RG}(h:mJ n l)(hm:n≤m):mJ m l:=⟨h.1,fun g hg=>w9 (h.2 g hg) hm⟩
theorem mJ.tail{n:Nat}{g:RG}{l:List RG}(h:mJ n (g::l)):mJ n l∧mJ g.aV l:=by
 obtain⟨h1,h2⟩:=h
 rw[List.pairwise_cons] at h1
 exact⟨⟨h1.2,fun x hx=>h2 x (by simp [hx])⟩,h1.2,h1.1⟩
theorem mJ.body{n:Nat}{l:List RG}(h:mJ n l)(f:Tm→Tm)(bd:List Tm):mJ n (bd.map (fun t=>(⟨f t,n⟩:RG))++l):=by
 refine⟨List.pairwise_append.2 ⟨?_,h.1,fun a ha b hb=>?_⟩,fun g hg=>?_⟩
 · rw[List.pairwise_map]
   exact List.pairwise_of_forall fun _ _=>cQ _
 · obtain⟨t,_,rfl⟩:=cE.1 ha
   exact h.2 b hb
 · rcases dQ.1 hg with hg | hg
   · obtain⟨t,_,rfl⟩:=cE.1 hg
     exact cQ _
   · exact h.2 g hg
structure xB (s:RS):Prop where
 goals:mJ s.chs.length s.goals
 chs:∀i c,s.chs[i]?=some c→mJ i c.rest
theorem OQ{p:List Cl}{cs:List RC}{goal:Tm}{rest:List RG}{σ:Sub}{N:Nat}(hr:mJ cs.length rest)(hc:∀i c,cs[i]?=some c→mJ i c.rest) :
 ∀(left:List Nat) s,gR p cs goal rest σ N left=some s→xB s
 | [],s,h=>by simp [gR] at h
 | i::l,s,h=>by
  rw[gR.eq_def] at h
  simp only at h
  split at h
  · cases h
  rename_i x hx
  split at h
  case isFalse=>exact OQ hr hc l s h
  cases h
  have hb:=hr.body (cU N) x.2
  refine⟨?_,?_⟩
  · simp only
    split
    · exact hb
    · exact hb.up (by simp)
  · simp only
    intro j c hj
    split at hj
    · exact hc j c hj
    · rw[List.getElem?_append] at hj
      split at hj
      · exact hc j c hj
      · rename_i hlt
        have hj0:j - cs.length=0:=by
         have:=(fD.1 hj).1
         simp at this;omega
        rw[hj0] at hj
        simp only[KY,Option.some.injEq] at hj
        subst hj
        exact hr.up (by omega)
theorem aH3{p:List Cl}:∀(n:Nat) (chs:List RC),(∀i c,chs[i]?=some c→mJ i c.rest)→∀s,eV p n chs=some s→xB s
 | 0,_,_,s,h=>by simp [eV] at h
 | n+1,chs,hc,s,h=>by
  rw[eV] at h
  split at h
  · cases h
  · rename_i c nG
    have hd:∀i c,chs.dropLast[i]?=some c→mJ i c.rest:=fun i c hi=>hc i c (by
     rw[List.dropLast_eq_take,List.getElem?_take] at hi
     split at hi
     · exact hi
     · cases hi)
    rw[List.getLast?_eq_getElem?] at nG
    have hk:=hc _ _ nG
    split at h
    · rename_i s' hs
      cases h
      exact OQ (by rw[List.length_dropLast];exact hk) hd _ s hs
    · exact aH3 n _ hd s h
theorem xB.step{p:List Cl}{cnd:Tm→List Nat→List Nat}{s s':RS}{g:RG}{rest:List RG}(hgs:s.goals=g::rest)(h:xB s)(e:gQ p cnd s g rest=.go s'):xB s':=by
 have hg:=h.goals
 rw[hgs] at hg
 obtain⟨h1,h2⟩:=hg.tail
 have h3:=hg.2 g (by simp)
 unfold gQ at e
 split at e
 · cases e
 split at e
 · cases e
   refine⟨?_,fun i c hi=>?_⟩
   · simp only[dY]
     exact h2.up (by omega)
   · simp only[List.getElem?_take] at hi
     split at hi
     · exact h.chs i c hi
     · cases hi
 split at e
 · split at e
   · cases e
     exact⟨h1,h.chs⟩
   · split at e<;>cases e
 split at e
 · cases e
 split at e
 case h_2=>cases e
 rename_i s2 hs
 cases e
 exact OQ h1 h.chs _ s' hs
def zN(s:RS):Prop:=26≤s.N∧∀c∈s.chs,26≤c.N
theorem OR{p:List Cl}{cs:List RC}{goal:Tm}{rest:List RG}{σ:Sub}{N:Nat}(hN:26≤N)(hc:∀c∈cs,26≤c.N) :
 ∀(left:List Nat) s,gR p cs goal rest σ N left=some s→zN s
 | [],s,h=>by simp [gR] at h
 | i::l,s,h=>by
  rw[gR.eq_def] at h
  simp only at h
  split at h
  · cases h
  rename_i x hx
  split at h
  case isFalse=>exact OR hN hc l s h
  cases h
  refine⟨by simp only;omega,?_⟩
  simp only
  split
  · exact hc
  · intro c h
    rcases dQ.1 h with h | h
    · exact hc c h
    · simp only[cP,dI,dN] at h
      subst h;exact hN
theorem aH4{p:List Cl}:∀(n:Nat) (chs:List RC),(∀c∈chs,26≤c.N)→∀s,eV p n chs=some s→zN s
 | 0,_,_,s,h=>by simp [eV] at h
 | n+1,chs,hc,s,h=>by
  rw[eV] at h
  split at h
  · cases h
  · rename_i c nG
    have hd:∀c∈chs.dropLast,26≤c.N:=fun c h=>hc c (KW _ h)
    split at h
    · rename_i s' hs
      cases h
      exact OR (hc c (KZ nG)) hd _ s hs
    · exact aH4 n _ hd s h
theorem zN.step{p:List Cl}{cnd:Tm→List Nat→List Nat}{s s':RS}{g:RG}{rest:List RG}(h:zN s)(e:gQ p cnd s g rest=.go s'):zN s':=by
 unfold gQ at e
 split at e
 · cases e
 split at e
 · cases e
   exact⟨h.1,fun c hc=>h.2 c (nP hc)⟩
 split at e
 · split at e
   · cases e
     exact h
   · split at e<;>cases e
 split at e
 · cases e
 split at e
 case h_2=>cases e
 rename_i s2 hs
 cases e
 exact OR h.1 h.2 _ s' hs
structure lG (p:List Cl) (B:Nat) (s:RS):Prop where
 a:oK p B s
 k:xB s
 l:zN s
theorem lG.step{p:List Cl}(hp:∀c∈p,fX c∧c.2.length≤6)(hpl:p.length≤1048576){B:Nat}(hB:B+26≤524288){cnd:Tm→List Nat→List Nat}(hc:∀t l,(∀i∈cnd t l,i∈l)∧(cnd t l).length≤l.length){s s':RS}{g:RG}{rest:List RG}(hgs:s.goals=g::rest)(h:lG p B s)
 (e:gQ p cnd s g rest=.go s'):lG p (B+26) s':=⟨h.a.step hp hpl hB hc hgs e,h.k.step hgs e,h.l.step e⟩
theorem lG.back{p:List Cl}(hp:∀c∈p,fX c∧c.2.length≤6){B:Nat}(hB:B≤524288){s s':RS}(h:lG p B s)(e:eV p s.chs.length s.chs=some s'):lG p B s':=
 ⟨h.a.back hp hB e,aH3 _ _ h.k.chs s' e,aH4 _ _ h.l.2 s' e⟩
theorem lG.up{p:List Cl}{B C:Nat}{s:RS}(h:lG p B s)(hC:B≤C):lG p C s:=⟨h.a.up hC,h.k,h.l⟩
theorem lG.start{p:List Cl}{q:List Tm}(hq:∀t∈q,a9 26 t∧t.k=3)(h6:q.length≤6):lG p 26 (k8 q):=by
 refine⟨⟨cD.none,fun n u h=>(by cases h),fun n _=>rfl,?_,(by show 0<26;omega),cQ _,?_,lY _,fun c hc=>(by cases hc)⟩,⟨⟨?_,?_⟩,fun i c hi=>(by cases hi)⟩,⟨cQ _,fun c hc=>(by cases hc)⟩⟩
 · intro g hg
   simp only[k8,cE] at hg
   obtain⟨t,ht,rfl⟩:=hg
   exact hq t ht
 · simp only[k8,aE];omega
 · simp only[k8,List.pairwise_map]
   exact List.pairwise_of_forall fun _ _=>cQ _
 · intro g hg
   simp only[k8,cE] at hg
   obtain⟨t,ht,rfl⟩:=hg
   exact lY _
end Go.AW
namespace Go.AW
theorem IX.node{p:List Cl}{M:Nat}{i:IS}(h:IX p M i):IX p M { i with nn:=i.nn+1 }:=
 ⟨h.tnd,h.tin,h.phi,fun c hc=>by obtain⟨h1,h2,h3,h4⟩:=h.ch c hc;exact⟨h1,by simp only;omega,h3,h4⟩,h.mono⟩
theorem IX.more{p:List Cl}{M:Nat}{i:IS}{σ':Sub}{add:List Int}{gl:List IG}(h:IX p M i)(S:lZ (i.fresh:Int) i.σ σ' add):IX p M { i with goals:=gl,σ:=σ',tr:=i.tr++add }:=by
 refine⟨jN.2 ⟨h.tnd,S.nodup,fun a ha b hb e=>?_⟩,fun n hn=>?_,h.phi,fun c hc=>?_,h.mono⟩
 · subst e
   exact(h.tin a ha).2 (S.new a hb).1
 · simp only[dQ] at hn
   rcases hn with hn | hn
   · have h1:=h.tin n hn
     have hna:n∉add:=fun ha=>h1.2 (S.new n ha).1
     exact⟨h1.1,by simp only;rw[S.aV n hna];exact h1.2⟩
   · exact⟨S.fK n hn,(S.new n hn).2⟩
 · obtain⟨h1,h2,h3,h4⟩:=h.ch c hc
   exact⟨h1,h2,by simp only[dX];omega,h4⟩
theorem IX.cut{p:List Cl}{M:Nat}{i:IS}{gl:List IG}(h:IX p M i)(k:Nat):IX p M { i with goals:=gl,chs:=i.chs.take k }:=
 ⟨h.tnd,h.tin,by have:=aG7 i.chs k;have:=h.phi;simp only;omega,fun c hc=>h.ch c (nP hc),h.mono.sublist (List.take_sublist _ _)⟩
def K5(p:List Cl)(M:Nat):vC→Prop
 | .go s=>IX p M s
 | .fail s=>IX p M s
 | .stop _=>True
theorem aTA{p:List Cl}(hp:∀c∈p,fX c)(hpl:p.length≤20){cnd:Tm→List Nat→List Nat}(hc:∀t l,(∀i∈cnd t l,i∈l)∧(cnd t l).length≤l.length){M:Nat}{i:IS}{g:IG}{rest:List IG}(h:IX p M i)(hg:cD i.σ)(ho:cF (a9 i.fresh) i.σ)(hgo:a9 i.fresh g.t) :
 K5 p (M+520) (kV p cnd i g rest):=by
 have hU:=h.up (M':=M+520) (by omega)
 unfold kV
 split
 · trivial
 rename_i fY
 have NJ:eA (g.t.aJ (rs i.σ))=true:=by simpa using fY
 have hok:=HV hg ho hgo NJ
 generalize g.t.aJ (rs i.σ)=t at *
 split
 · exact(hU.cut (gl:=rest) g.cut).node
 split
 · have S:=JH hg ho t.s t.ts fun x hx=>by
    obtain⟨k,n,s',ts⟩:=t
    by_cases hk:k=1
    · obtain⟨_,_,_,h2⟩:=(show cB i.fresh (.mk 1 n s' ts) from hk▸hok.1).var
      simp only[Tm.ts] at hx
      rw[h2] at hx;cases hx
    · exact qD _ (.mk k n s' ts) hk hok x hx
   split
   · exact(hU.more (gl:=rest) S).node
   · split
     · exact(hU.more (gl:=i.goals) S).node
     · trivial
 split
 · trivial
 obtain⟨c1,c2⟩:=hc t (eU p t)
 have hfl:(eU p t).length≤p.length:=by
  have:=List.length_filter_le (fun j=>match p[j]? with | some c=>EE c t | none=>false) (List.range p.length)
  rw[List.length_range] at this
  exact this
 have hr:∀x∈cnd t (eU p t),x<p.length:=fun x hx=>by
  have:=c1 x hx
  unfold eU at this
  exact vG.1 (List.mem_filter.1 this).1
 have hT:=IM hp (rest:=rest) (cnd t (eU p t)) { i with nn:=i.nn+1 } hr (at':=i.nn) (by simp only;omega) (by have:=h.phi;simp only;omega) hU.node hg ho hok
 split
 · exact hT
 · exact hT
end Go.AW
namespace Go.AW
open Go.Proofs.Tryz
theorem aGS{p:List Cl}{goal:Tm}{at':Nat}{rest:List IG}:∀(l:List Nat) (s:IS),(fZ p goal at' rest l s).1=false→∃F,(fZ p goal at' rest l s).2= { s with fresh:=F }
 | [],s,_=>⟨s.fresh,by rw[fZ.eq_def]⟩
 | j::l,s,h=>by
  rw[fZ.eq_def] at h ⊢
  simp only at h ⊢
  split at h
  · exact⟨s.fresh,rfl⟩
  · split at h
    · cases h
    · rename_i hu
      rw[aG hu]
      obtain⟨F,e⟩:=aGS l { s with fresh:=s.fresh+26 } h
      exact⟨F,e⟩
theorem IN{p:List Cl}{goal:Tm}{at':Nat}{rest:List IG}:∀(l:List Nat) (s:IS),(fZ p goal at' rest l s).2.nn=s.nn
 | [],s=>by rw[fZ.eq_def]
 | j::l,s=>by
  rw[fZ.eq_def]
  simp only
  split
  · rfl
  · split
    · rfl
    · exact IN l { s with fresh:=s.fresh+26 }
theorem Rl.facts{s:RS}{i:IS}(h:Rl s i):cD i.σ∧cF (a9 i.fresh) i.σ∧i.chs.length=s.chs.length∧i.goals.length=s.goals.length:=by
 obtain⟨ρ,S,G,C⟩:=h
 have:=rF List.length G.1
 simp only[aE] at this
 exact⟨S.g2,S.o2,C.len,this⟩
theorem Rl.goal{s:RS}{i:IS}{h:IG}{hs:List IG}(hR:Rl s i)(hh:i.goals=h::hs):a9 i.fresh h.t∧h.t.k=3∧∃g gs,s.goals=g::gs∧h.cut=g.aV:=by
 obtain⟨ρ,S,G,C⟩:=hR
 rw[hh] at G
 cases hg:s.goals with
 | nil=>rw[hg] at G;exact absurd G.1 (by simp)
 | cons g gs=>
  rw[hg] at G
  have he:=(vE G.1).1
  simp only[Prod.mk.injEq] at he
  obtain⟨e1,e2⟩:=he
  obtain⟨h1,h2⟩:=G.2 g (by simp)
  rw[e1]
  exact⟨S.yG h1,by rw[wE];exact h2,g,gs,rfl,e2⟩
section
variable {p:List Cl} (hp:∀c∈p,fX c) {cnd:Tm→List Nat→List Nat} (hc:∀(ρ:Int→Int) (t:Tm) (l:List Nat),cnd (bP ρ t) l=cnd t l)
include hp hc
theorem Rl.step{s:RS}{i:IS}{h:IG}{hs:List IG}(hR:Rl s i)(hh:i.goals=h::hs):∃g gs,s.goals=g::gs∧match kV p cnd i h hs with
 | .stop e=>gQ p cnd s g gs=.stop e
 | .go i'=>∃s',gQ p cnd s g gs=.go s'∧Rl s' i'
 | .fail i'=>gQ p cnd s g gs=.fail∧gM i'.fresh s.chs i'.chs i'.σ i'.tr:=by
 obtain⟨_,_,g,gs,hg,_⟩:=hR.goal hh
 obtain⟨h',hs',e,k⟩:=aIW hp hc hR hg
 rw[hh] at e
 cases e
 refine⟨g,gs,hg,?_⟩
 cases hr:gQ p cnd s g gs with
 | stop e=>rw[hr] at k;simp only at k;rw[k]
 | go s'=>rw[hr] at k;simp only at k;obtain⟨i',e,k⟩:=k;rw[e];exact⟨s',rfl,k⟩
 | fail=>rw[hr] at k;simp only at k;obtain⟨i',e,k⟩:=k;rw[e];exact⟨rfl,k⟩
end
theorem aQO(p:List Cl)(t:Tm):(eU p t).length≤p.length:=by
 have:=List.length_filter_le (fun j=>match p[j]? with | some c=>EE c t | none=>false) (List.range p.length)
 rw[List.length_range] at this
 exact this
theorem aQP(p:List Cl)(t:Tm):∀x∈eU p t,x<p.length:=fun x hx=>by
 unfold eU at hx
 exact vG.1 (List.mem_filter.1 hx).1
theorem aGR{p:List Cl}{N:Nat}{i':IS}:∀(n:Nat) (i:IS),(∀c∈i.chs,c.taken≤N)→gC p n i=some i'→i'.nn≤N
 | 0,i,_,e=>by simp [gC] at e
 | n+1,i,h,e=>by
  rw[gC] at e
  split at e
  · cases e
  · rename_i c hl
    split at e
    · cases e
      rw[IN]
      exact h c (KZ hl)
    · rename_i hf
      obtain⟨F,e2⟩:=aGS _ _ (by simpa using hf)
      rw[e2] at e
      exact aGR n _ (fun c hc=>h c (KW _ hc)) e
def K4(k:Nat):vC→Prop
 | .go s=>s.nn=k
 | .fail s=>s.nn=k
 | .stop _=>True
theorem aTB{p:List Cl}{cnd:Tm→List Nat→List Nat}{i:IS}{g:IG}{rest:List IG}:K4 (i.nn+1) (kV p cnd i g rest):=by
 unfold kV
 split
 · trivial
 split
 · exact rfl
 split
 · split
   · exact rfl
   · split
     · exact rfl
     · trivial
 split
 · trivial
 split
 · exact IN _ _
 · exact IN _ _
def QW:vC→Prop
 | .stop e=>e≠-1
 | _=>True
theorem aTC{p:List Cl}{cnd:Tm→List Nat→List Nat}{i:IS}{g:IG}{rest:List IG}:QW (kV p cnd i g rest):=by
 unfold kV
 split
 · exact(by decide:(3:Int)≠-1)
 split
 · trivial
 split
 · split
   · trivial
   · split
     · trivial
     · show nV _≠-1
       unfold nV
       split
       · decide
       · split
         · decide
         · split<;>decide
 split
 · exact(by decide:(8:Int)≠-1)
 split<;>trivial
structure RI (p:List Cl) (B M k:Nat) (s:RS) (i:IS):Prop where
 r:Rl s i
 a:lG p B s
 x:IX p M i
 n:i.nn≤k
theorem RI.oR{p:List Cl}{B M k:Nat}{s:RS}{i:IS}(h:RI p B M k s i):i.chs.length≤B:=by rw[h.r.facts.2.2.1];exact h.a.a.oR
theorem RI.cr{p:List Cl}{B M k:Nat}{s:RS}{i:IS}(h:RI p B M k s i):gM i.fresh s.chs i.chs i.σ i.tr:=by obtain⟨_,_,_,C⟩:=h.r;exact C
theorem RI.cut{p:List Cl}{B M k:Nat}{s:RS}{i:IS}{g:IG}{gs:List IG}(h:RI p B M k s i)(hg:i.goals=g::gs):g.cut≤i.chs.length:=by
 obtain⟨_,_,g',gs',e,e2⟩:=h.r.goal hg
 rw[e2,h.r.facts.2.2.1]
 have:=h.a.k.goals.2 g' (by rw[e];simp)
 exact this
section
variable {p:List Cl} (hp:∀c∈p,fX c∧c.2.length≤6) (hpl:p.length≤20) {cnd:Tm→List Nat→List Nat} (hc:∀(ρ:Int→Int) (t:Tm) (l:List Nat),cnd (bP ρ t) l=cnd t l) (hd:∀t l,(∀i∈cnd t l,i∈l)∧(cnd t l).length≤l.length)
include hp
theorem RI.R6{B M k:Nat}(hB:B≤524288){s:RS}{i i':IS}(ha:lG p B s)(hC:gM i.fresh s.chs i.chs i.σ i.tr)(hx:IX p M i)(hn:i.nn≤k)(e:gC p i.chs.length i=some i'):∃s',RI p B M k s' i':=by
 have hp1:=fun c h=>(hp c h).1
 have key:=LU hp1 i.chs.length s.chs i hC
 cases hr:eV p i.chs.length s.chs with
 | none=>rw[hr] at key;simp only at key;rw[key] at e;cases e
 | some s'=>
  rw[hr] at key
  obtain⟨i2,e2,R⟩:=key
  rw[e2] at e
  cases e
  rw[hC.len] at hr
  exact⟨s',R,ha.back hp hB hr,aGQ hp1 _ s.chs i hC hx i' e2,aGR _ i (fun c hc=>w9 (hx.ch c hc).2.1 hn) e2⟩
theorem RI.back{B M k:Nat}(hB:B≤524288){s:RS}{i i':IS}(h:RI p B M k s i)(e:gC p i.chs.length i=some i'):∃s',RI p B M k s' i':=
 RI.R6 hp hB h.a h.cr h.x h.n e
include hpl hc hd
theorem RI.step{B M k:Nat}(hB:B+26≤524288){s:RS}{i:IS}{g:IG}{gs:List IG}(h:RI p B M k s i)(hg:i.goals=g::gs):match kV p cnd i g gs with
 | .stop e=>True
 | .go i'=>∃s',RI p (B+26) (M+520) (k+1) s' i'
 | .fail i'=>gM i'.fresh s.chs i'.chs i'.σ i'.tr∧IX p (M+520) i'∧i'.nn≤k+1∧∀i2,gC p i'.chs.length i'=some i2→∃s',RI p (B+26) (M+520) (k+1) s' i2:=by
 have hp1:=fun c h=>(hp c h).1
 have hn:=aTB (p:=p) (cnd:=cnd) (i:=i) (g:=g) (rest:=gs)
 have hx:=aTA hp1 hpl hd (rest:=gs) h.x h.r.facts.1 h.r.facts.2.1 (h.r.goal hg).1
 obtain⟨g',gs',e,k⟩:=h.r.step hp1 hc hg
 have hk:=h.n
 cases hs:kV p cnd i g gs with
 | stop e=>trivial
 | go i'=>
  rw[hs] at hn hx k
  simp only[K4,K5] at hn hx k
  obtain⟨s',e1,R⟩:=k
  exact⟨s',R,h.a.step hp (by omega) hB hd e e1,hx,by omega⟩
 | fail i'=>
  rw[hs] at hn hx k
  simp only[K4,K5] at hn hx k
  obtain⟨e1,C⟩:=k
  exact⟨C,hx,by omega,fun i2 e2=>RI.R6 hp hB (h.a.up (by omega)) C hx (by omega) e2⟩
end
theorem RI.start{p:List Cl}{q:List Tm}(hq:∀t∈q,a9 26 t∧t.k=3)(h6:q.length≤6):RI p 26 26 0 (k8 q) (nH q):=by
 refine⟨aIV hq,lG.start hq h6,⟨kM,fun n hn=>(by cases hn),(by show 26+26*oB []≤26;simp [oB]),fun c hc=>(by cases hc),List.Pairwise.nil⟩,cQ _⟩
theorem aS9{p:List Cl}{cnd:Tm→List Nat→List Nat}{vars:List Int}{most fuel:Nat}{s:IS}(hg:s.goals= []):iJ p cnd vars most fuel s=if most=0 then([],1) else match gW s.σ vars with
 | none=>([],3)
 | some a=>match gC p s.chs.length s with
  | none=>([a],0)
  | some s'=>(a::(iJ p cnd vars (most - 1) fuel s').1,(iJ p cnd vars (most - 1) fuel s').2):=by
 rw[iJ.eq_def,hg]
 simp only
 split<;>rfl
theorem aS8{p:List Cl}{cnd:Tm→List Nat→List Nat}{vars:List Int}{most fuel:Nat}{s:IS}{g:IG}{rest:List IG}(hg:s.goals=g::rest):iJ p cnd vars most fuel s=if fuel=0 then([],2) else match kV p cnd s g rest with
 | .stop e=>([],e)
 | .go s'=>iJ p cnd vars most (fuel - 1) s'
 | .fail s'=>match gC p s'.chs.length s' with
  | none=>([],0)
  | some s''=>iJ p cnd vars most (fuel - 1) s'':=by
 rw[iJ.eq_def,hg]
 simp only
 split<;>rfl
section
variable {st0 st:aA} {S c m:Nat} {qt qc qn:AV} {p:List Cl} {q:List Tm} {idx:Bool} {fuel used mx:Int} {nd:List AV} {i:IS}
theorem cW.acc{b:Nat}{l:List AV}(h:cW st0 st S c m qt qc qn p q idx fuel used mx nd i)(hb:l≠[]→st b=none):cW (bE st0 b l) (bE st b l) S c m qt qc qn p q idx fuel used mx nd i:=by
 cases l with
 | nil=>exact h
 | cons x l=>
  have hn:=hb (by simp)
  have hne:∀a∈iB S c m qt qc qn,bE st b (x::l) a=st a:=fun a ha=>iW (by rintro rfl;exact h.held a ha hn)
  have aSF:∀a∈iB S c m qt qc qn,bE st0 b (x::l) a=st0 a:=fun a ha=>iW (by rintro rfl;exact h.held a ha hn)
  refine⟨by rw[hne S (dT.2 (.inl rfl))];exact h.cell,h.sto.BD (hne c (dT.2 (.inr (.inl rfl)))) (hne m (dT.2 (.inr (.inr (.inl rfl))))) (fun b hb=>hne b (dT.2 (.inr (.inr (.inr (.inl hb)))))),
   h.acC.aV fun b hb=>hne b (dT.2 (.inr (.inr (.inr (.inr (.inl hb)))))),h.acN.aV fun b hb=>hne b (dT.2 (.inr (.inr (.inr (.inr (.inr hb)))))),h.ndl,h.ndw,h.dis,fun a ha=>by rw[aSF a ha];exact h.new a ha,fun a o ha=>?_⟩
  by_cases e:a=b
  · subst e
    rw[jE (by simp),aA.aH] at ha ⊢
    exact ha
  · rw[iW e] at ha ⊢
    exact h.aV a o ha
theorem cW.yT{b:Nat}{l:List AV}{st2:aA}(h:cW (bE st0 b l) st2 S c m qt qc qn p q idx fuel used mx nd i)(hb:l≠[]→st0 b=none):∃s,st2=bE s b l∧(l≠[]→s b=none)∧cW st0 s S c m qt qc qn p q idx fuel used mx nd i:=by
 cases l with
 | nil=>exact⟨st2,rfl,fun h=>absurd rfl h,h⟩
 | cons x l=>
  have hn:=hb (by simp)
  have h2:st2 b=some (.cells ((x::l).flatMap AV.cells)):=h.aV b _ (by rw[jE (by simp),aA.aH])
  have hbn:b∉iB S c m qt qc qn:=fun hm=>by
   have:=h.new b hm
   rw[jE (by simp),aA.aH] at this
   cases this
  obtain⟨s',hs'⟩:∃s':aA,∀y,s' y=if y=b then none else st2 y:=⟨_,fun _=>rfl⟩
  have hne:∀a∈iB S c m qt qc qn,s' a=st2 a:=fun a ha=>by rw[hs',aG (by rintro rfl;exact hbn ha)]
  refine⟨s',?_,fun _=>by rw[hs',aK rfl],?_⟩
  · funext y
    by_cases e:y=b
    · subst e;rw[jE (by simp),aA.aH,h2]
    · rw[iW e,hs',aG e]
  · refine⟨by rw[hne S (dT.2 (.inl rfl))];exact h.cell,h.sto.BD (hne c (dT.2 (.inr (.inl rfl)))) (hne m (dT.2 (.inr (.inr (.inl rfl))))) (fun b hb=>hne b (dT.2 (.inr (.inr (.inr (.inl hb)))))),
     h.acC.aV fun b hb=>hne b (dT.2 (.inr (.inr (.inr (.inr (.inl hb)))))),h.acN.aV fun b hb=>hne b (dT.2 (.inr (.inr (.inr (.inr (.inr hb)))))),h.ndl,h.ndw,h.dis,fun a ha=>?_,fun a o ha=>?_⟩
    · have:=h.new a ha
      rwa [iW (by rintro rfl;exact hbn ha)] at this
    · have e:a≠b:=by rintro rfl;rw[hn] at ha;cases ha
      rw[hs',aG e]
      exact h.aV a o (by rw[iW e];exact ha)
theorem HM{st:aA}{b:Nat}{o:AO}(h:st b=none):e7 st (st.aC b o):=fun x p hx=>by
 rw[aA.aF _ _ (by rintro rfl;rw[h] at hx;cases hx)];exact hx
theorem KH{S b:Nat}(hne:S≠b)(X Y:AO):∃s0:aA,s0 S=some X∧s0 b=some Y∧∀st:aA,st S=some X→st b=some Y→e7 s0 st:=by
 refine⟨(one S X).aC b Y,by rw[aA.aF _ _ hne];exact uL,aA.aH _ _ _,fun st h1 h2 x p hx=>?_⟩
 by_cases e:x=b
 · subst e;rw[aA.aH] at hx;cases hx;exact h2
 · rw[aA.aF _ _ e] at hx;exact f9 h1 x p hx
theorem cW.box{b:Nat}{o:AO}(h:cW st0 st S c m qt qc qn p q idx fuel used mx nd i)(hn:st b=none):cW (st0.aC b o) (st.aC b o) S c m qt qc qn p q idx fuel used mx nd i:=by
 have hne:∀(s:aA) a,a∈iB S c m qt qc qn→(s.aC b o) a=s a:=fun s a ha=>aA.aF _ _ (by rintro rfl;exact h.held a ha hn)
 refine⟨by rw[hne _ S (dT.2 (.inl rfl))];exact h.cell,h.sto.BD (hne _ c (dT.2 (.inr (.inl rfl)))) (hne _ m (dT.2 (.inr (.inr (.inl rfl))))) (fun b hb=>hne _ b (dT.2 (.inr (.inr (.inr (.inl hb)))))),
  h.acC.aV fun b hb=>hne _ b (dT.2 (.inr (.inr (.inr (.inr (.inl hb)))))),h.acN.aV fun b hb=>hne _ b (dT.2 (.inr (.inr (.inr (.inr (.inr hb)))))),h.ndl,h.ndw,h.dis,fun a ha=>by rw[hne _ a ha];exact h.new a ha,fun a o' ha=>?_⟩
 by_cases e:a=b
 · subst e
   rw[aA.aH] at ha ⊢
   exact ha
 · rw[aA.aF _ _ e] at ha ⊢
   exact h.aV a o' ha
theorem cW.unbox{b:Nat}{o:AO}(h:cW (st0.aC b o) st S c m qt qc qn p q idx fuel used mx nd i)(hn:st0 b=none):cW st0 st S c m qt qc qn p q idx fuel used mx nd i:=by
 refine⟨h.cell,h.sto,h.acC,h.acN,h.ndl,h.ndw,h.dis,fun a ha=>?_,fun a o' ha=>?_⟩
 · have:=h.new a ha
   by_cases e:a=b
   · subst e;exact hn
   · rwa [aA.aF _ _ e] at this
 · have e:a≠b:=by rintro rfl;rw[hn] at ha;cases ha
   exact h.aV a o' (by rw[aA.aF _ _ e];exact ha)
end
def GC(st0 st':aA)(S c m:Nat)(p:List Cl)(q:List Tm)(idx:Bool)(fuel used:Int)(r:AV):vC→Prop
 | .go i'=>r=.int .i64 (-1)∧∃qt qc qn mx nd,cW st0 st' S c m qt qc qn p q idx fuel used mx nd i'
 | .fail i'=>QM st0 st' S c m p q idx fuel used r (gC p i'.chs.length i')
 | .stop e=>r=.int .i64 e∧∃qt qc qn mx nd i',cW st0 st' S c m qt qc qn p q idx fuel used mx nd i'
def KT(p:List Cl)(idx:Bool)(cnd:Tm→List Nat→List Nat):Prop:=
 (idx=false→cnd=fun _ l=>l)
theorem aTM(yn:Int)(ys:ByteArray)(yts:List Tm)(st:aA):aD prog 184 [(Tm.mk 3 yn ys yts).av] st (fun r st'=>r=.bool (pY (.mk 3 yn ys yts))∧st'=st):=by
 have h:=SQ 3 yn ys yts st
 have e:(decide ((3:Int)=3)&&decide ((yts.length:Int)=0)&&decide (ys=⟨#[33]⟩))=pY (.mk 3 yn ys yts):=by
  rw[wZ]
  simp [pY,Tm.k,Tm.s,Tm.ts,and_comm]
  exact fun _=>⟨fun h=>sL h,fun h=>of_decide_eq_true h⟩
 rw[e] at h
 exact h
theorem aTL(yn:Int)(ys:ByteArray)(yts:List Tm)(st:aA):aD prog 185 [(Tm.mk 3 yn ys yts).av] st (fun r st'=>r=.bool (isBuiltin ys (yts.length:Int))∧st'=st):=by
 have h:=LZ 3 yn ys yts st
 rw[show(decide ((3:Int)=3)&&isBuiltin ys (yts.length:Int))=isBuiltin ys (yts.length:Int) from rfl] at h
 exact h
abbrev mF:=zi tI_3 (zi zI_3 (zi aZ (zi tI_4 (zi zI_4 (zi cG (zi tI_27 (zi zI_27 (zi eT (zi gO (zi gP (zi iD (zi tI_40 (zi zI_40 (zi dC (zi fH (zi fJ (zi fL (zi tI_52 (zi zI_52 (zi bX (zi bY (zi bZ (zi b7 (zi bV (zi tI_150 (zi zI_150 (zi tI_178 (zi zI_178 (zi tI_180 (zi zI_180 (zi tI_181 (zi zI_181 (zi xM (zi HA (zi HD (zi QC (zi tI_182 (zi zI_182 (zi AK (zi HB (zi HE (zi QD (zi tI_184 (zi zI_184 (zi DR (zi DS (zi DV (zi DW (zi DX (zi DY (zi DZ (zi D0 (zi D1 (zi D3 (zi DT (zi DU (zi C8 (zi tI_211 (zi zI_211 (zi aEJ (zi aEK (zi aEL (zi aEM (zi RX (zi tI_215 (zi zI_215 (zi aEN (zi aEO (zi aEP (zi RY (zi tI_219 (zi zI_219 (zi MS (zi MT LT))))))))))))))))))))))))))))))))))))))))))))))))))))))))))))))))))))))))))
set_option maxHeartbeats 2000000 in
theorem aOZ{p:List Cl}(hp:∀c∈p,fX c∧c.2.length≤6)(hpl:p.length≤20){cnd:Tm→List Nat→List Nat}(hc:∀(ρ:Int→Int) (t:Tm) (l:List Nat),cnd (bP ρ t) l=cnd t l)(hd:∀t l,(∀i∈cnd t l,i∈l)∧(cnd t l).length≤l.length){idx:Bool}(BA:KT p idx cnd)(xX:idx=false)
 {B M k:Nat} (hB:B+26≤524288) (hM:M+520≤16777216) (hk:k+1≤524288) {st0 st:aA} {S c m:Nat} {qt qc qn:AV} {q:List Tm} {fuel used:Int} {mx:Int} {nd:List AV} {s:RS} {i:IS} {g:IG} {rest:List IG}
 (h:cW st0 st S c m qt qc qn p q idx fuel used mx nd i) (hR:RI p B M k s i) (hg:i.goals=g::rest) (hu0:0≤used) (hu:used≤1000000) :
 aD prog 151 [.ptr S 0] st (fun r st'=>if used=fuel then r=.int .i64 2∧cW st0 st' S c m qt qc qn p q idx fuel used mx nd i else GC st0 st' S c m p q idx fuel (used+1) r (kV p cnd i g rest)):=by
 have hp1:=fun c h=>(hp c h).1
 obtain⟨hgd,ho,hcl,_⟩:=hR.r.facts
 obtain⟨hgo,hg3,_⟩:=hR.r.goal hg
 have hct:=hR.cut hg
 have hst:=hR.step hp hpl hc hd hB hg
 have aZW:=hR.oR
 have hnn:=hR.n
 have hX:=hR.x
 obtain⟨rk,D,G⟩:=hgd.rs
 have hfo:=HV hgd ho hgo
 have hyk:(g.t.aJ (rs i.σ)).k=3:=by rw[Tm.qA _ (by omega)];exact hg3
 have x8:=TD G (ho.imp fun t ht=>ht.1.2.1) (ho.imp fun t ht=>ht.1.small) c m qt g.t hgo.1.2.1 hgo.1.small
 generalize hT:kV p cnd i g rest=T at *
 unfold kV at hT
 obtain⟨⟨gk,gn,gs',gts⟩,cut,up⟩:=g
 simp only at hgo hg3 hct hfo hyk x8 hT
 generalize (Tm.mk gk gn gs' gts).aJ (rs i.σ)=y at *
 obtain⟨yk,yn,ys,yts⟩:=y
 obtain rfl:yk=3:=hyk
 simp only[Tm.s,Tm.ts] at hT
 have eC:=h.cell
 rw[hg,rK] at eC
 simp only[gE] at eC
 obtain⟨t1,t2,t3,t4,t5⟩:=h.sto.shape
 obtain⟨n1,n2,n3,n4,n5⟩:=h.acC.shape
 obtain⟨m1,m2,m3,m4,m5⟩:=h.acN.shape
 obtain⟨l1,l2,l3,l4,l5,l6⟩:=nY rest
 refine aD.nB ?_
 refine wF [1000000] 1 func151 ntmps151 rfl rfl ?_
 intro _
 simp -implicitDefEqProofs only[aB,seval]
 refine wX [(0,1),(1,1),(2,1),(3,1),(4,1),(5,1),(6,1),(7,1),(8,1)] [0,1,2,3,4,5,6,7,8] _ mixed rfl (f9 eC) ?_
 simp -implicitDefEqProofs only[uL,aB,seval,mF]
 refine aT (fun h1=>?_) (fun h1=>?_)
 · have h1':used=fuel:=by simpa using h1
   simp -implicitDefEqProofs only[aB,seval]
   exact⟨st,aL.refl _,by rw[aK h1'];exact h⟩
 have h1':used≠fuel:=by simpa using h1
 have hw:=bK (n:=used+1)
 simp -implicitDefEqProofs only[aS,eC,hw,aA.aH,aB,seval,mF]
 have h2:=h.put (gl:=i.goals) (F:=i.fresh) (fuel':=fuel) (used':=used+1) (mx':=mx) rfl
 rw[hg,rK] at h2
 simp only[gE] at h2
 generalize aA.aC st S _=V at h2 ⊢
 have p7:=h2.cell
 rw[rK] at p7
 simp only[gE] at p7
 have hSV:=h2.sto
 have hr:=fun(s2:aA) (hs2:e7 V s2)=>x8 s2 ⟨hs2 _ _ hSV.sub.cells,hs2 _ _ hSV.sub.map⟩
 unfold I4 at hr
 by_cases hf:eA (.mk 3 yn ys yts)=true
 case neg=>
  rw[aG (by unfold eA at hf;simpa using hf)] at hr
  rw[aK (by simpa using hf)] at hT
  subst hT
  simp only[a7,Tm.zero,bG] at hr
  refine wX [(0,1),(1,1),(2,1),(3,1),(4,1),(5,1),(6,1),(7,1),(8,1),(9,1),(10,1),(11,1),(12,0),(13,0),(14,1)] [0,1,2,3,4,5,6,7,8,9,10,11,14] V mixed rfl (e7.refl V) ?_
  simp -implicitDefEqProofs only[p7,aB,seval,mF]
  refine ME hr ?_
  simp -implicitDefEqProofs only[aS,aA.aH,aB,seval,mF]
  exact fun b hb=>⟨HM hb,HM hb,V,(aL.refl _).aC hb,by rw[aG h1'];exact⟨rfl,_,_,_,_,_,_,h2⟩⟩
 rw[aK (by unfold eA at hf;simpa using hf)] at hr
 rw[aG (by rw[hf];simp)] at hT
 have hyo:=hfo hf
 simp only[a7] at hr
 have NZ:prog.underlying 182=some (.slice 215):=by kernel_rfl
 refine wX [(0,1),(1,1),(2,1),(3,1),(4,1),(5,1),(6,1),(7,1),(8,1),(9,1),(10,1),(11,1),(12,0),(13,0),(14,1)] [0,1,2,3,4,5,6,7,8,9,10,11,14] V mixed rfl (e7.refl V) ?_
 simp -implicitDefEqProofs only[p7,aB,seval,mF]
 refine ME hr ?_
 simp -implicitDefEqProofs only[aS,aA.aH,aB,seval,mF]
 intro b4 h4
 refine⟨HM h4,HM h4,?_⟩
 have h40:=h2.aFG h4
 have H0:S≠b4:=by rintro rfl;rw[p7] at h4;cases h4
 have h3:=h2.box (o:=.cells [AV.int IntKind.i64 3,AV.int IntKind.i64 yn,AV.str ys,AV.slice (List.map Tm.av yts)]) h4
 have D9:(st0.aC b4 (.cells [AV.int IntKind.i64 3,AV.int IntKind.i64 yn,AV.str ys,AV.slice (List.map Tm.av yts)])) b4=some (.cells [AV.int IntKind.i64 3,AV.int IntKind.i64 yn,AV.str ys,AV.slice (List.map Tm.av yts)]):=aA.aH _ _ _
 have hun:=fun {st' qt qc qn q idx fuel used mx nd i}=>cW.unbox (st0:=st0) (st:=st') (S:=S) (c:=c) (m:=m) (qt:=qt) (qc:=qc) (qn:=qn) (p:=p) (q:=q) (idx:=idx) (fuel:=fuel) (used:=used) (mx:=mx) (nd:=nd) (i:=i) (b:=b4) (o:=.cells [AV.int IntKind.i64 3,AV.int IntKind.i64 yn,AV.str ys,AV.slice (List.map Tm.av yts)]) (hn:=h40)
 generalize V.aC b4 (.cells [AV.int IntKind.i64 3,AV.int IntKind.i64 yn,AV.str ys,AV.slice (List.map Tm.av yts)])=W at h3 ⊢
 generalize st0.aC b4 (.cells [AV.int IntKind.i64 3,AV.int IntKind.i64 yn,AV.str ys,AV.slice (List.map Tm.av yts)])=W0 at h3 D9 hun
 clear p7 hSV hr h2
 have A9:=h3.cell
 rw[rK] at A9
 simp only[gE] at A9
 have hbW:=h3.aV b4 _ D9
 have hlN:=h3.acN.len NZ
 rw[h3.ndl] at hlN
 simp only at hlN
 simp -implicitDefEqProofs only[A9,hlN,m1,aB,seval]
 obtain⟨s0,z1,z2,z3⟩:=KH H0 _ _
 refine wX [(0,1),(1,1),(2,1),(3,1),(4,1),(5,1),(6,1),(7,1),(8,1),(9,1),(10,1),(11,1),(12,0),(13,1),(14,1),(15,2)] [0,1,2,3,4,5,6,7,8,9,10,11,13,14] s0 mixed rfl (z3 _ A9 hbW) ?_
 simp -implicitDefEqProofs only[z1,z2,m1,aB,seval,mF]
 refine iF.append AK HB HE rfl (by decide) h3.acN rfl rfl (by rw[h3.ndl];simp only;omega) (fun qn5 s5 rL hf hn=>?_)
 have hbo:b4∉iB S c m qt qc qn:=fun hm=>by have:=h3.new b4 hm;rw[D9] at this;cases this
 have hold:∀y o,W y=some o→y∉dD qn→s5 y=some o:=fun y o hy hq=>by
  rw[hf y hq fun hq'=>by
   rcases hn y hq' with h' | h'
   · exact hq h'
   · rw[hy] at h';cases h']
  exact hy
 have rM:=hold S _ A9 h3.parts.2.2.2.2.2.1
 have hb5:=hold b4 _ hbW fun hm=>hbo (dT.2 (.inr (.inr (.inr (.inr (.inr hm))))))
 obtain⟨m1,m2,m3,m4,m5⟩:=rL.shape
 simp -implicitDefEqProofs only[aS,rM,m4,m5,aB,seval,mF]
 refine⟨z3 _ rM hb5,?_⟩
 have h5:=h3.aUX (n':=i.nn+1) rL (by rw[dX,h3.ndl];try rfl) (fun e he=>by
  rcases dQ.1 he with he | he
  · exact h3.ndw e he
  · simp only[cP,dI,dN] at he;subst he;rfl) hf hn rfl
 rw[rK] at h5
 simp only[gE] at h5
 generalize aA.aC s5 S _=W5 at h5 ⊢
 clear rM hb5 hold hf hn A9 hbW
 have kU:=h5.cell
 rw[rK] at kU
 simp only[gE] at kU
 have hb6:=h5.aV b4 _ D9
 have aF2:=aTM yn ys yts
 have aFY:=aTL yn ys yts
 simp only[a7] at aF2 aFY
 simp -implicitDefEqProofs only[hb6,aB,seval]
 refine(aF2 _).to ?_
 simp -implicitDefEqProofs only[aB,seval]
 refine aT (fun hcu=>?_) (fun hcu=>?_)
 · simp only[hcu,d3] at hT
   subst hT
   simp -implicitDefEqProofs only[kU,aB,seval,mF]
   have hsl:=fun(φ:AF) (dd:Nat) (h:φ dd=.int .i64 (cut:Int))=>aIP xM h5.acC h (by rw[aE];exact hct)
   have hQ:=(h5.acC.take (k:=cut) (by rw[aE];exact hct) (N1 _)).shape
   obtain⟨c1,c2,c3,c4,c5⟩:=hQ
   obtain⟨s1,y1,y2,y3⟩:=KH H0 _ _
   refine wX [(0,1),(1,1),(2,1),(3,1),(4,1),(5,1),(6,1),(7,1),(8,1),(9,1),(10,1),(11,1),(12,2)] [0,1,2,3,4,5,6,7,8,9,10,11] s1 mixed rfl (y3 _ kU hb6) ?_
   simp -implicitDefEqProofs only[aS,y1,kU,hsl,c4,c5,n1,l1,l2,l4,l5,aA.aH,aB,seval,mF]
   refine⟨_,aL.refl _,?_⟩
   rw[aG h1']
   have h6:=h5.TX (k:=cut) (gl:=rest) hct rfl
   exact⟨rfl,_,_,_,_,_,hun h6⟩
 simp only[hcu,jX,cM] at hT
 simp -implicitDefEqProofs only[hb6,aB,seval,mF]
 refine(aFY _).to ?_
 simp -implicitDefEqProofs only[aB,seval]
 refine aT (fun hbl=>?_) (fun hbl=>?_)
 · simp only[hbl,d3] at hT
   have hks:∀x∈yts,a9 i.fresh x:=qD _ (.mk 3 yn ys yts) (show(3:Int)≠1 by decide) hyo
   have EB:=aMX hgd ho yn ys yts hbl hks c m qt i.tr W5 h5.sto (by have:=hX.P8;have:=hX.phi;omega)
   simp only[a7] at EB
   replace hT:(if(cS i.σ ys yts).1=0 then vC.go { goals:=rest,σ:=(cS i.σ ys yts).2.1,tr:=i.tr++(cS i.σ ys yts).2.2,chs:=i.chs,fresh:=i.fresh,nn:=i.nn+1 } else if(cS i.σ ys yts).1=1 then vC.fail { goals:=i.goals,σ:=(cS i.σ ys yts).2.1,tr:=i.tr++(cS i.σ ys yts).2.2,chs:=i.chs,fresh:=i.fresh,nn:=i.nn+1 } else vC.stop (nV (cS i.σ ys yts).1))=T:=hT
   generalize sY:cS i.σ ys yts=Z at EB hT
   obtain⟨code,σ',add⟩:=Z
   simp only at hT
   obtain⟨s1,y1,y2,y3⟩:=KH H0 _ _
   refine wX [(0,1),(1,1),(2,1),(3,1),(4,1),(5,0),(6,1)] [0,1,2,3,4,6] s1 mixed rfl (y3 _ kU hb6) ?_
   simp -implicitDefEqProofs only[y1,y2,aB,seval,mF]
   refine EB.mono ?_
   rintro _ s6 ⟨rfl,hP⟩
   obtain⟨qt6,h6⟩:=h5.post hP
   have mM:=h6.cell
   rw[rK] at mM
   simp only[gE] at mM
   have hb7:=h6.aV b4 _ D9
   obtain⟨t1,t2,t3,t4,t5⟩:=h6.sto.shape
   simp -implicitDefEqProofs only[aB,seval]
   refine⟨y3 _ mM hb7,?_⟩
   refine aT (fun hc0=>?_) (fun hc0=>?_)
   · have M8:code=0:=by simpa using hc0
     rw[aK M8] at hT
     subst hT
     simp -implicitDefEqProofs only[aS,mM,l1,l2,l4,l5,aB,seval,mF]
     refine⟨_,aL.refl _,?_⟩
     rw[aG h1']
     exact⟨rfl,_,_,_,_,_,hun (h6.put (gl:=rest) (F:=i.fresh) (fuel':=fuel) (used':=used+1) (mx':=mx) rfl)⟩
   have M8:code≠0:=by simpa using hc0
   rw[aG M8] at hT
   simp -implicitDefEqProofs only[aB,seval]
   refine aT (fun hc1=>?_) (fun hc1=>?_)
   · have M9:code=1:=by simpa using hc1
     rw[aK M9] at hT
     subst hT
     simp only at hst
     rw[←hg] at h6
     have hbk:=LX hp (M:=M+520) (by omega) _ _ _ _ _ _ ({ goals:=i.goals,σ:=σ',tr:=i.tr++add,chs:=i.chs,fresh:=i.fresh,nn:=i.nn+1 }:IS) s.chs (T:=gC p (({ goals:=i.goals,σ:=σ',tr:=i.tr++add,chs:=i.chs,fresh:=i.fresh,nn:=i.nn+1 }:IS)).chs.length ({ goals:=i.goals,σ:=σ',tr:=i.tr++add,chs:=i.chs,fresh:=i.fresh,nn:=i.nn+1 }:IS)) ⟨h6,hst.1,hst.2.1,rfl,⟨by rw[hst.1.len];have:=hR.a.a.oR;omega,w9 hst.2.2.1 (by omega)⟩⟩
     simp -implicitDefEqProofs only[aB,seval]
     refine hbk.mono ?_
     rintro r s7 hr
     simp -implicitDefEqProofs only[aB,seval]
     refine⟨s7,aL.refl _,?_⟩
     rw[aG h1']
     simp only[GC]
     cases hB2:gC p (({ goals:=i.goals,σ:=σ',tr:=i.tr++add,chs:=i.chs,fresh:=i.fresh,nn:=i.nn+1 }:IS)).chs.length ({ goals:=i.goals,σ:=σ',tr:=i.tr++add,chs:=i.chs,fresh:=i.fresh,nn:=i.nn+1 }:IS) with
     | none=>
      rw[hB2] at hr
      obtain⟨e1,qt7,qc7,qn7,mx7,nd7,i7,h7⟩:=hr
      exact⟨e1,_,_,_,_,_,_,hun h7⟩
     | some i7=>
      rw[hB2] at hr
      obtain⟨e1,qt7,qc7,qn7,mx7,nd7,h7⟩:=hr
      exact⟨e1,_,_,_,_,_,hun h7⟩
   have M9:code≠1:=by simpa using hc1
   rw[aG M9] at hT
   subst hT
   simp -implicitDefEqProofs only[aB,seval]
   refine(aM5 code _).to ?_
   simp -implicitDefEqProofs only[aB,seval]
   refine⟨_,aL.refl _,?_⟩
   rw[aG h1']
   exact⟨rfl,_,_,_,_,_,_,hun h6⟩
 simp only[hbl,jX,cM] at hT
 have hpr:=TC 3 yn ys yts
 have hcf:=aMZ p (.mk 3 yn ys yts) (by omega)
 simp only[a7,Tm.s,Tm.ts] at hpr hcf
 obtain⟨s1,y1,y2,y3⟩:=KH H0 _ _
 simp -implicitDefEqProofs only[aB,seval]
 refine wX [(0,1),(1,1),(2,1),(3,1),(4,1),(5,0),(6,0),(7,1)] [0,1,2,3,4,7] s1 mixed rfl (y3 _ kU hb6) ?_
 simp -implicitDefEqProofs only[y1,y2,aB,seval,mF]
 refine(hpr _).to ?_
 simp -implicitDefEqProofs only[aB,seval]
 refine⟨y3 _ kU hb6,?_⟩
 refine(hcf _).to ?_
 simp -implicitDefEqProofs only[aE,aB,seval,mF]
 refine⟨y3 _ kU hb6,?_⟩
 refine aT (fun hl0=>?_) (fun hl0=>?_)
 · have NO:eU p (.mk 3 yn ys yts)= []:=by simpa using hl0
   rw[aK NO] at hT
   subst hT
   simp -implicitDefEqProofs only[aB,seval]
   refine⟨_,aL.refl _,?_⟩
   rw[aG h1']
   exact⟨rfl,_,_,_,_,_,_,hun h5⟩
 have NO:eU p (.mk 3 yn ys yts)≠[]:=by simpa using hl0
 rw[aG NO] at hT
 subst xX
 obtain rfl:=BA rfl
 have hfl:=aQO p (.mk 3 yn ys yts)
 have h5':=h5
 rw[←hg] at h5'
 have EL:=TL hp (M:=M+520) (by omega) h5' (.mk 3 yn ys yts) i.nn rest (eU p (.mk 3 yn ys yts)) hgd ho hyo (aQP _ _) (by omega) (by simp only;omega) (hX.up (Nat.le_add_right M 520)).node (by have:=hX.phi;simp only;omega) (by simp only;omega) (by simp only;omega)
 simp only[a7] at EL
 simp -implicitDefEqProofs only[kU,aB,seval,mF]
 refine wX [(0,1),(1,1),(2,1),(3,1),(4,1),(5,1),(6,1),(7,1),(8,2)] [0,1,2,3,4,5,6,7] s1 mixed rfl (y3 _ kU hb6) ?_
 simp -implicitDefEqProofs only[y2,l1,l2,aB,seval,mF]
 refine EL.mono ?_
 rintro _ s6 ⟨rfl,qt6,qc6,mx6,nd6,h6⟩
 simp -implicitDefEqProofs only[aB,seval]
 refine aT (fun ht0=>?_) (fun ht0=>?_)
 · simp only[ht0,d3] at hT
   subst hT
   simp -implicitDefEqProofs only[aB,seval]
   refine⟨_,aL.refl _,?_⟩
   rw[aG h1']
   exact⟨rfl,_,_,_,_,_,hun h6⟩
 simp only[ht0,jX,cM] at hT
 subst hT
 simp only at hst
 have hbk:=LX hp (M:=M+520) (by omega) _ _ _ _ _ _ (fZ p (.mk 3 yn ys yts) i.nn rest (eU p (.mk 3 yn ys yts)) { i with nn:=i.nn+1 }).2 s.chs (T:=gC p ((fZ p (.mk 3 yn ys yts) i.nn rest (eU p (.mk 3 yn ys yts)) { i with nn:=i.nn+1 }).2).chs.length (fZ p (.mk 3 yn ys yts) i.nn rest (eU p (.mk 3 yn ys yts)) { i with nn:=i.nn+1 }).2) ⟨h6,hst.1,hst.2.1,rfl,⟨by rw[hst.1.len];have:=hR.a.a.oR;omega,w9 hst.2.2.1 (by omega)⟩⟩
 simp -implicitDefEqProofs only[aB,seval]
 refine hbk.mono ?_
 rintro r s7 hr
 simp -implicitDefEqProofs only[aB,seval]
 refine⟨s7,aL.refl _,?_⟩
 rw[aG h1']
 simp only[GC]
 cases hB2:gC p ((fZ p (.mk 3 yn ys yts) i.nn rest (eU p (.mk 3 yn ys yts)) { i with nn:=i.nn+1 }).2).chs.length (fZ p (.mk 3 yn ys yts) i.nn rest (eU p (.mk 3 yn ys yts)) { i with nn:=i.nn+1 }).2 with
 | none=>
  rw[hB2] at hr
  obtain⟨e1,qt7,qc7,qn7,mx7,nd7,i7,h7⟩:=hr
  exact⟨e1,_,_,_,_,_,_,hun h7⟩
 | some i7=>
  rw[hB2] at hr
  obtain⟨e1,qt7,qc7,qn7,mx7,nd7,h7⟩:=hr
  exact⟨e1,_,_,_,_,_,hun h7⟩


abbrev aJF:=zi tI_3 (zi zI_3 (zi aZ (zi tI_40 (zi zI_40 (zi dC (zi fH (zi fJ (zi fL (zi tI_52 (zi zI_52 (zi bX (zi bY (zi bZ (zi b7 bV))))))))))))))
theorem aOO(vars:List Int)(n:Int)(st:aA):aD prog 238 [.int .i64 n,.pptr (.slice (vars.map iv))] st (fun r st'=>r=(vr (eE n vars 0)).av∧st'=st):=by
 refine aD.done ?_
 refine wF [1000000] 2 func238 ntmps238 rfl rfl ?_
 intro _
 simp -implicitDefEqProofs only[aB,seval,aJF]
 intro b hb
 refine(SE vars n _).to ?_
 simp -implicitDefEqProofs only[aB,seval]
 refine(MC _ _).to ?_
 simp -implicitDefEqProofs only[aS,Tm.d8,Tm.fG,pJ (Tm.fG _),oO (bU _),aB,seval,aJF]
 exact⟨Tm.soft _,(aL.refl _).aC hb⟩
abbrev PR:=zi tI_3 (zi zI_3 (zi aZ (zi tI_28 (zi zI_28 (zi aQ (zi bM (zi bO (zi cA (zi tI_40 (zi zI_40 (zi dC (zi fH (zi fJ (zi fL (zi tI_52 (zi zI_52 (zi bX (zi bY (zi bZ (zi b7 bV))))))))))))))))))))
theorem aON(l:List Tm)(hln:l.length≤1048576)(hsz:aM Tm.nodes l≤1099511627776)(hsm:∀t∈l,t.small=true)(st:aA):aD prog 193 [.slice (l.map Tm.av)] st (fun r st'=>r=.slice ((oE l).map Tm.av)∧st'=st):=by
 refine aD.done ?_
 refine wF [1000000] 1 func193 ntmps193 rfl rfl ?_
 simp only[dK,AV.fits,dZ,aE]
 intro ⟨hl,_⟩
 simp -implicitDefEqProofs only[aB,seval]
 refine(MD l _ hsz).to ?_
 simp -implicitDefEqProofs only[aE,aB,↓aX,seval,PR]
 generalize hv:bR l []=vars
 have hR:oE l=l.map fun t=>t.aJ fun v=>vr (eE v vars 0):=by rw[←hv];try rfl
 rw[hR]
 refine tL (σ:=Unit) [1000000] [2,3,9,10] (l) 4 4 (fun i _=>(((l).take i).map (fun t=>t.aJ fun v=>vr (eE v vars 0))).map Tm.av) (fun _ _=>True) (fun i _=>[(11,.int .i64 i)]) (fun _ _=>st) (fun i _ _ e he=>by simp only[cE] at he;obtain⟨t,_,rfl⟩:=he;exact⟨Tm.eO t,aN t⟩) (by decide +kernel) ⟨(),0,trivial,fun h=>absurd rfl h,aP.mk (by simp -implicitDefEqProofs only[kP,lC,bG,aB,↓aX,seval])⟩ (fun i x s b hx hlt bF hdr hinv hb=>?_) (fun s b hge hinv=>?_)
 case refine_1=>
  have hw:=bK (n:=(i:Int)+1)
  have dH:((((l).take i).map (fun t=>t.aJ fun v=>vr (eE v vars 0))).map Tm.av).length=i:=by simp only[aE,dY];omega
  have htk:((((l).take i).map (fun t=>t.aJ fun v=>vr (eE v vars 0))).map Tm.av)++ [Tm.av ((fun t=>t.aJ fun v=>vr (eE v vars 0)) x)]=(((l).take (i+1)).map (fun t=>t.aJ fun v=>vr (eE v vars 0))).map Tm.av:=by rw[f8,hx];simp
  have hat:=bJ (av:=Tm.av) aQ hx (aN x)
  simp -implicitDefEqProofs only[bF,hat,aB,↓aX,seval,PR]
  refine(L3 (fun v=>vr (eE v vars 0)) _ [.pptr (.slice (vars.map iv))] rfl x _ (hsm x (cL hx)) (fun n _ s=>aOO vars n s)).to ?_
  simp -implicitDefEqProofs only[aB,seval,PR]
  refine fT aQ bM bO rfl rfl (g9 (aN _) (Tm.d8 _)) (by intro e he;simp only[cE] at he;obtain⟨t,_,rfl⟩:=he;exact aN t) hb (by simp only[dH,bA,bS];omega) (by simp only[dH,bA,bS];omega) (fun b' hb'=>?_)
  rw[htk] at hb' ⊢
  simp -implicitDefEqProofs only[aB,seval]
  exact⟨(),b',hb',aP.mk (by simp -implicitDefEqProofs only[hw,aB,seval])⟩
 simp -implicitDefEqProofs only[hge,fQ,jA,rJ,A0,nC,eM,aB,seval]
 exact⟨rfl,aL.refl _⟩
def QF:Option (List Tm)→AV
 | none=>.tup [.slice [],.bool false]
 | some l=>.tup [.slice (l.map Tm.av),.bool true]
theorem aHU:∀ {l:List Tm},(∀t∈l,t.nodes≤120)→aM Tm.nodes l≤120*l.length
 | [],_=>by simp [aM]
 | t::l,h=>by
  have h1:=h t (by simp)
  have h2:=aHU (l:=l) fun x hx=>h x (by simp [hx])
  simp only[aM,bA];omega
abbrev FO:=zi tI_3 (zi zI_3 (zi aZ (zi tI_4 (zi zI_4 (zi cG (zi tI_28 (zi zI_28 (zi aQ (zi bM (zi bO (zi cA (zi tI_40 (zi zI_40 (zi dC (zi fH (zi fJ (zi fL (zi tI_52 (zi zI_52 (zi bX (zi bY (zi bZ (zi b7 (zi bV (zi tI_178 zI_178)))))))))))))))))))))))))
theorem aO6{N:Nat}{σ:Sub}(hg:cD σ)(ho:cF (a9 N) σ)(vars:List Int)(hv:∀v∈vars,0≤v∧v<(N:Int))(hl:vars.length≤1000)(c m:Nat)(q:AV)(st:aA)(hS:gV st c m q σ) :
 aD prog 152 [.ptr c 0,.slice (vars.map iv)] st (fun r st'=>r=QF (gW σ vars)∧st'=st):=by
 obtain⟨rk,B,G⟩:=hg.rs
 have x8:=fun(t:Tm) (ht:a9 N t) st hS=>TD G (ho.imp fun t ht=>ht.1.2.1) (ho.imp fun t ht=>ht.1.small) c m q t ht.1.2.1 ht.1.small st hS
 refine aD.done ?_
 refine wF [1000000] 2 func152 ntmps152 rfl rfl ?_
 intro _
 simp -implicitDefEqProofs only[aE,aB,seval,FO]
 refine tL (σ:=Unit) [1000000] [0,11,12] vars 4 6 (fun i _=>((vars.take i).map (rs σ)).map Tm.av) (fun i _=>((vars.take i).map (rs σ)).all eA=true) (fun i _=>[(4,.fslice []),(5,.bool false),(13,.int .i64 i)]) (fun _ _=>st) (fun i _ _ e he=>by simp only[cE] at he;obtain⟨t,_,rfl⟩:=he;exact⟨Tm.eO _,aN _⟩) (by decide +kernel) ⟨(),0,rfl,fun h=>absurd rfl h,aP.mk (by simp -implicitDefEqProofs only[kP,lC,bG,aB,↓aX,seval])⟩ (fun i x s b hx hlt bF hdr hinv hb=>?_) (fun s b hge hinv=>?_)
 · have hw:=bK (n:=(i:Int)+1)
   have hxm:=cL hx
   obtain⟨hx0,hx1⟩:=hv x hxm
   have hvr:a9 N (vr x):=⟨E0 hx0 hx1,by rw[vr,Tm.jS];simp [aM]⟩
   have hat:dG prog 40 (.slice (vars.map iv)) (.int .i64 (i:Int))=some (.pptr (.int .i64 x)):=bJ (av:=iv) dC hx rfl
   have dH:(((vars.take i).map (rs σ)).map Tm.av).length=i:=by simp only[aE,dY];omega
   have c9:((vars.take (i+1)).map (rs σ)).all eA=eA (rs σ x):=by
    rw[f8,hx]
    simp only[K2,lB,bH,bG,zB,hinv,iS,List.all_nil,y7,iL]
   have hr:=x8 (vr x) hvr _ (hS.acc hb)
   rw[uI] at hr
   unfold I4 at hr
   simp -implicitDefEqProofs only[bF,hat,aB,seval,FO]
   refine(MC x _).to ?_
   simp -implicitDefEqProofs only[aB,seval]
   by_cases hf:eA (rs σ x)=true
   · rw[aK (by unfold eA at hf;simpa using hf)] at hr
     refine hr.to ?_
     simp -implicitDefEqProofs only[bU,aN,Tm.d8,Tm.eO,aB,↓aX,seval,FO]
     refine fT aQ bM bO rfl rfl (g9 (aN _) (Tm.d8 _)) (iC _) hb (by simp only[dH,bA,bS];omega) (by simp only[dH,bA,bS];omega) (fun b' hb'=>?_)
     rw[show(((vars.take i).map (rs σ)).map Tm.av)++ [(rs σ x).av]=((vars.take (i+1)).map (rs σ)).map Tm.av by rw[f8,hx];simp] at hb' ⊢
     simp -implicitDefEqProofs only[hw,aB,seval]
     exact⟨(),b',by rw[c9];exact hf,hb',aP.mk (by simp -implicitDefEqProofs only[aB,seval])⟩
   · rw[aG (by unfold eA at hf;simpa using hf)] at hr
     refine hr.to ?_
     simp -implicitDefEqProofs only[aN,Tm.d8,Tm.eO,aB,↓aX,seval,FO]
     have oZ:gW σ vars=none:=by
      unfold gW
      rw[aG]
      rintro⟨h1,_⟩
      exact hf (eL.1 h1 _ (cE.2 ⟨x,hxm,rfl⟩))
     rw[oZ]
     exact⟨rfl,aL.bE (aL.refl _) hb⟩
 · rw[eM] at hinv
   have hok:∀t∈vars.map (rs σ),a9 N t:=fun t ht=>by
    obtain⟨v,hvm,rfl⟩:=cE.1 ht
    have hf:=eL.1 hinv _ ht
    unfold eA at hf
    simp only[cK,bL] at hf
    exact⟨G.kZ ho.kZ v (hv v hvm).1 (hv v hvm).2,hf.2⟩
   have hsz:aM Tm.nodes (vars.map (rs σ))≤1099511627776:=by
    have:=aHU (l:=vars.map (rs σ)) fun t ht=>(hok t ht).2
    rw[aE] at this
    omega
   simp -implicitDefEqProofs only[hge,fQ,t7,jA,rJ,HU,nC,eM,aB,seval]
   refine(MD (vars.map (rs σ)) _ hsz).to ?_
   simp -implicitDefEqProofs only[aE,aE,aB,seval,FO]
   refine aT (fun h=>?_) (fun h=>?_)
   · simp -implicitDefEqProofs only[aB,seval]
     have h':¬(bR (vars.map (rs σ)) []).length≤26:=by simp at h;omega
     unfold gW
     rw[aG (fun hh=>h' hh.2)]
     exact⟨rfl,aL.refl _⟩
   · simp -implicitDefEqProofs only[aB,seval]
     have h':(bR (vars.map (rs σ)) []).length≤26:=by simp at h;omega
     refine(aON (vars.map (rs σ)) (by rw[aE];omega) hsz (fun t ht=>(hok t ht).1.small) _).to ?_
     simp -implicitDefEqProofs only[aB,seval]
     unfold gW
     rw[aK ⟨hinv,h'⟩]
     exact⟨rfl,aL.refl _⟩
abbrev aJQ:=zi tI_3 (zi zI_3 (zi aZ (zi tI_4 (zi zI_4 (zi cG (zi tI_27 (zi zI_27 (zi eT (zi gO (zi gP (zi iD (zi tI_28 (zi zI_28 (zi aQ (zi bM (zi bO (zi cA (zi tI_150 (zi zI_150 (zi tI_180 (zi zI_180 (zi tI_184 (zi zI_184 (zi DR (zi DS (zi DV (zi DW (zi DX (zi DY (zi DZ (zi D0 (zi D1 (zi D3 (zi DT (zi DU C8)))))))))))))))))))))))))))))))))))
theorem aOJ(p:List Cl)(q:List Tm)(fuel:Int)(idx:Bool)(hq:q.length≤1048576)(st:aA) :
 aD prog 122 [.slice (p.map bD),.slice (q.map Tm.av),.int .i64 fuel,.bool idx] st (fun r st'=>∃S c m,r=.ptr S 0∧cW st st' S c m (.fslice []) (.fslice []) (.fslice []) p q idx fuel 0 0 [] (nH q)):=by
 have x7:=fun st=>L6 q 0 (-1) [] hq st
 simp only[fM] at x7
 rw[d5] at x7
 refine wF [1000000,16] 4 func122 ntmps122 rfl rfl ?_
 intro _
 simp -implicitDefEqProofs only[aB,seval]
 refine(aOK st).mono ?_
 rintro _ s1 ⟨c,m,rfl,hS,hQ,hc,hm⟩
 simp -implicitDefEqProofs only[aB,seval,aJQ]
 intro S hS0
 have hSc:S≠c:=by rintro rfl;rw[hS.sub.cells] at hS0;cases hS0
 have hSm:S≠m:=by rintro rfl;rw[hS.sub.map] at hS0;cases hS0
 refine(x7 _).to ?_
 obtain⟨l1,l2,l3,l4,l5,l6⟩:=nY (q.map (fun t=>(⟨t,0,-1⟩:IG)))
 simp -implicitDefEqProofs only[aS,aA.aH,l4,l5,aB,seval,aJQ]
 refine⟨S,c,m,rfl,?_⟩
 have hcm:c≠m:=by rintro rfl;have:=hS.sub.cells;rw[hS.sub.map] at this;cases this
 have aFN:st S=none:=by
  cases hh:st S with
  | none=>rfl
  | some o=>have:=hQ.frame S o hh hSc hSm (by simp [c7]);rw[hS0] at this;cases this
 refine⟨aA.aH _ _ _,hS.aC hSc hSm (by simp [c7]),.inl ⟨rfl,rfl⟩,.inl ⟨rfl,rfl⟩,rfl,by simp,?_,?_,?_⟩
 · simp [iB,c7,dD,hSc,hSm,hcm]
 · intro b hb
   rcases dT.1 hb with rfl | rfl | rfl | hb | hb | hb
   · exact aFN
   · exact hc
   · exact hm
   · simp [c7] at hb
   · simp [dD] at hb
   · simp [dD] at hb
 · intro b o hb
   have e1:b≠S:=by rintro rfl;rw[aFN] at hb;cases hb
   rw[aA.aF _ _ e1]
   exact hQ.frame b o hb (by rintro rfl;rw[hc] at hb;cases hb) (by rintro rfl;rw[hm] at hb;cases hb) (by simp [c7])
theorem aMY(p:List Cl)(q:List Tm)(most fuel:Int)(st:aA) :
 aD prog 121 [.slice (p.map bD),.slice (q.map Tm.av),.int .i64 most,.int .i64 fuel] st (fun r st'=>r=.bool (nI p&&(mA q&&(decide (0≤most)&&(decide (most≤20)&&(decide (0≤fuel)&&decide (fuel≤300))))))∧st'=st):=by
 have h1:=fun st=>SL p st
 have h2:=fun st=>SM q st
 have h3:=fun n lo hi st=>xJ n lo hi st
 refine wF [] 4 func121 ntmps121 rfl rfl ?_
 intro _
 simp -implicitDefEqProofs only[aB,seval]
 refine(h1 _).to ?_
 simp -implicitDefEqProofs only[aB,seval]
 refine cT (fun h=>?_) (fun h=>?_)
 · simp -implicitDefEqProofs only[h,aB,seval]
   refine(h2 _).to ?_
   simp -implicitDefEqProofs only[aB,seval]
   refine cT (fun h5=>?_) (fun h5=>?_)
   · simp -implicitDefEqProofs only[h5,aB,seval]
     refine(h3 _ _ _ _).to ?_
     simp -implicitDefEqProofs only[aB,seval]
     refine cT (fun h6=>?_) (fun h6=>?_)
     · simp -implicitDefEqProofs only[h6,aB,seval]
       refine(h3 _ _ _ _).to ?_
       simp -implicitDefEqProofs only[aB,seval]
       rw[←Bool.and_assoc (decide (0≤most)),h6,iL]
     · simp -implicitDefEqProofs only[h6,aB,seval]
       rw[←Bool.and_assoc (decide (0≤most)),h6]
       try rfl
   · simp -implicitDefEqProofs only[h5,aB,seval]
     rw[lV]
 · simp -implicitDefEqProofs only[h,aB,seval]
   rw[lV]
theorem aOS(st:aA):aD prog 124 [] st (fun r st'=>r=.tup []∧st'=st):=by
 refine wF [1000000] 0 func124 ntmps124 rfl rfl ?_
 intro _
 simp -implicitDefEqProofs only[aB,seval,]
structure K3 where
 st:aA
 qt:AV
 qc:AV
 qn:AV
 mx:Int
 nd:List AV
 s:RS
 i:IS
 out:List (List Tm)
 b:Nat
 u:Nat
 B:Nat
 M:Nat
 e:Int
structure aKW (st0:aA) (S c m:Nat) (p:List Cl) (q:List Tm) (idx:Bool) (cnd:Tm→List Nat→List Nat) (vars:List Int) (most fuel:Nat) (T:List (List Tm)×Int) (x:K3):Prop where
 a:cW st0 x.st S c m x.qt x.qc x.qn p q idx fuel x.u x.mx x.nd x.i
 r:RI p x.B x.M x.u x.s x.i
 t:T=(x.out++(iJ p cnd vars (most - x.out.length) (fuel - x.u) x.i).1,(iJ p cnd vars (most - x.out.length) (fuel - x.u) x.i).2)
 u:x.u≤fuel
 B:x.B≤26+26*x.u
 M:x.M≤26+520*x.u
structure QU (st0:aA) (S c m:Nat) (p:List Cl) (q:List Tm) (idx:Bool) (cnd:Tm→List Nat→List Nat) (vars:List Int) (most fuel:Nat) (T:List (List Tm)×Int) (x:K3):Prop where
 d:aL x.st st0
 b:x.out.map aY≠[]→x.st x.b=none
 l:x.out.length≤most
 g:x.e= -1→aKW st0 S c m p q idx cnd vars most fuel T x
 f:x.e≠-1→T=(x.out,x.e)
abbrev JU:=zi tI_3 (zi zI_3 (zi aZ (zi tI_4 (zi zI_4 (zi cG (zi tI_28 (zi zI_28 (zi aQ (zi bM (zi bO (zi cA (zi tI_31 (zi zI_31 (zi fA (zi gY (zi gZ (zi k9 (zi tI_40 (zi zI_40 (zi dC (zi fH (zi fJ (zi fL (zi tI_55 (zi zI_55 (zi v7 (zi vR (zi tI_150 (zi zI_150 (zi tI_178 (zi zI_178 (zi tI_180 (zi zI_180 (zi tI_184 (zi zI_184 (zi DR (zi DS (zi DV (zi DW (zi DX (zi DY (zi DZ (zi D0 (zi D1 (zi D3 (zi DT (zi DU C8)))))))))))))))))))))))))))))))))))))))))))))))
set_option maxHeartbeats 2000000 in
theorem aOP{p:List Cl}(hp:∀c∈p,fX c∧c.2.length≤6)(hpl:p.length≤20){cnd:Tm→List Nat→List Nat}(hc:∀(ρ:Int→Int) (t:Tm) (l:List Nat),cnd (bP ρ t) l=cnd t l)(hd:∀t l,(∀i∈cnd t l,i∈l)∧(cnd t l).length≤l.length){idx:Bool}(BA:KT p idx cnd)(xX:idx=false)
 {q:List Tm} (hq:∀t∈q,a9 26 t∧t.k=3) (h6:q.length≤6) {most fuel:Nat} (hm:most≤20) (hf:fuel≤300) {st0 st:aA} {S c m:Nat} (h:cW st0 st S c m (.fslice []) (.fslice []) (.fslice []) p q idx fuel 0 0 [] (nH q)) :
 aD prog 123 [.ptr S 0,.int .i64 (most:Int),.func 124 []] st (fun r st'=>∃b s,r=.tup [bQ 1 b ((iJ p cnd (bR q []) most fuel (nH q)).1.map aY),.int .i64 (iJ p cnd (bR q []) most fuel (nH q)).2]∧st'=bE s b ((iJ p cnd (bR q []) most fuel (nH q)).1.map aY)∧((iJ p cnd (bR q []) most fuel (nH q)).1.map aY≠[]→s b=none)∧aL s st0):=by
 have hnd:aM Tm.nodes q≤1099511627776:=by
  have:=BK q fun t ht=>(hq t ht).1.2
  omega
 have hva:=fun st=>MD q st hnd
 have hv:∀v∈bR q [],0≤v∧v<26:=fun v hv=>by
  rcases (wR q [] fun t ht=>(hq t ht).1.1.2.1).1 hv with h | ⟨t,ht,h⟩
  · cases h
  · exact(hq t ht).1.1.2.2 v h
 have hvl:(bR q []).length≤1000:=by
  have h1:=wQ q []
  have h2:=BK q fun t ht=>(hq t ht).1.2
  simp only[bS] at h1
  omega
 have IK:=RI.start (p:=p) hq h6
 generalize hT:iJ p cnd (bR q []) most fuel (nH q)=T
 generalize bR q []=vars at *
 have hI0:QU st0 S c m p q idx cnd vars most fuel T ⟨st,.fslice [],.fslice [],.fslice [],0,[],k8 q,nH q,[],0,0,26,26,-1⟩:=
  ⟨h.tY,by simp,lY _,fun _=>⟨h,IK,by rw[←hT];try rfl,lY _,cQ _,cQ _⟩,fun h=>absurd rfl h⟩
 have NB:=h.cell
 simp only[gE] at NB
 obtain⟨l1,l2,l3,l4,l5,l6⟩:=nY (nH q).goals
 refine wF [1000000] 3 func123 ntmps123 rfl rfl ?_
 intro _
 simp -implicitDefEqProofs only[NB,aB,seval,JU]
 refine(hva _).to ?_
 simp -implicitDefEqProofs only[aB,seval]
 clear NB l1 l2 l3 l4 l5 l6
 have hne:∀l:List IG,dR prog .neq 180 (d5 l) .nilptr=some (.bool (!l.isEmpty)):=fun l=>by
  have h:prog.underlying 180=some (.pointer 211):=by kernel_rfl
  cases l with
  | nil=>rw[d5];simp only[dR,h];rfl
  | cons g l=>obtain⟨⟨k,n,s,ts⟩,cut,up⟩:=g;rw[rK];simp only[dR,h];rfl
 refine mW (σ:=K3) [1000000] [0,1,2,8] (fun x=>QU st0 S c m p q idx cnd vars most fuel T x)
  (fun x=>[(6,.fslice []),(7,.int .i64 0),(9,bQ 1 x.b (x.out.map aY)),(10,.int .i64 x.e)])
  (fun x=>bE x.st x.b (x.out.map aY))
  (fun x=>(most - x.out.length)+(fuel - x.u)+(if x.e= -1 then 1 else 0)) (by decide +kernel) ⟨_,hI0,aP.mk (by simp -implicitDefEqProofs only[kP,bG,aB,seval])⟩ ?_
 clear hI0 h hT IK
 rintro⟨st,qt,qc,qn,mx,nd,s,i,out,b,u,B,M,e⟩ ⟨hdr,hb,hlen,hgo,dV⟩
 simp only at hdr hb hlen hgo dV
 simp only
 simp -implicitDefEqProofs only[aB,seval]
 refine aT (fun h=>?_) (fun h=>?_)
 case refine_2=>
  have h':e≠-1:=by simpa using h
  have hTe:=dV h'
  subst hTe
  simp -implicitDefEqProofs only[nS,aB,seval]
  exact⟨b,st,rfl,rfl,hb,hdr⟩
 obtain rfl:e= -1:=by simpa using h
 obtain⟨ha,hR,ht,hu,hBB,hMM⟩:=hgo rfl
 simp only at ha hR ht hu hBB hMM
 have hb0:out.map aY≠[]→st0 b=none:=fun h=>(hdr b).1 (hb h)
 have hA:=ha.acc hb
 have hlo:(out.map aY).length=out.length:=aE _
 have hun:prog.underlying 31=some (.slice 55):=by kernel_rfl
 have sW:=CY (w:=1) (b:=b) (l:=out.map aY) hun
 rw[hlo] at sW
 have IL:∀l:List (List Tm),∀e∈l.map aY,e.width=1:=fun l e he=>by simp only[cE] at he;obtain⟨t,_,rfl⟩:=he;rfl
 have eC:=hA.cell
 simp only[gE] at eC
 obtain⟨l1,l2,l3,l4,l5,l6⟩:=nY i.goals
 have mO:=hne i.goals
 simp -implicitDefEqProofs only[aB,seval]
 refine(aOS _).to ?_
 simp -implicitDefEqProofs only[eC,l1,mO,aB,seval,JU]
 cases hg:i.goals with
 | cons g rest=>
  rw[hg] at mO
  simp only[List.isEmpty_cons,tM] at mO
  refine aT (fun h2=>?_) (fun h2=>absurd h2 (by first | rw[hg];simp | simp))
  simp -implicitDefEqProofs only[aB,seval]
  rw[aS8 hg] at ht
  have rS:=aOZ hp hpl hc hd BA xX (B:=B) (M:=M) (k:=u) (by omega) (by omega) (by omega) hA hR hg (by omega) (by omega)
  have hRs:=hR.step hp hpl hc hd (by omega) hg
  have hse:=aTC (p:=p) (cnd:=cnd) (i:=i) (g:=g) (rest:=rest)
  refine rS.mono ?_
  clear rS
  rintro r s2 hr
  split at hr
  · rename_i hfu
    obtain⟨rfl,hA2⟩:=hr
    obtain⟨s3,rfl,hb3,hA3⟩:=hA2.yT hb0
    rw[aK (by omega)] at ht
    simp -implicitDefEqProofs only[aB,seval]
    exact⟨⟨s3,qt,qc,qn,mx,nd,s,i,out,b,u,B,M,2⟩,by simp,⟨hA3.tY,hb3,hlen,fun h=>absurd h (by simp),fun _=>by rw[ht];simp⟩,aP.mk (by simp -implicitDefEqProofs only[aB,seval])⟩
  · rename_i hfu
    have aZZ:u<fuel:=by omega
    rw[aG (by omega)] at ht
    cases hS:kV p cnd i g rest with
    | stop e=>
     rw[hS] at hr ht hse
     simp only[QW] at hse
     simp only at ht
     obtain⟨rfl,qt2,qc2,qn2,mx2,nd2,i2,hA2⟩:=hr
     obtain⟨s3,rfl,hb3,hA3⟩:=hA2.yT hb0
     simp -implicitDefEqProofs only[aB,seval]
     exact⟨⟨s3,qt,qc,qn,mx,nd,s,i,out,b,u,B,M,e⟩,by simp [hse],⟨hA3.tY,hb3,hlen,fun h=>absurd h hse,fun _=>by rw[ht];simp⟩,aP.mk (by simp -implicitDefEqProofs only[aB,seval])⟩
    | go i'=>
     rw[hS] at hr ht hRs
     simp only at ht hRs
     obtain⟨s',hR'⟩:=hRs
     obtain⟨rfl,qt2,qc2,qn2,mx2,nd2,hA2⟩:=hr
     obtain⟨s3,rfl,hb3,hA3⟩:=hA2.yT hb0
     simp -implicitDefEqProofs only[aB,seval]
     exact⟨⟨s3,qt2,qc2,qn2,mx2,nd2,s',i',out,b,u+1,B+26,M+520,-1⟩,by simp;omega,⟨hA3.tY,hb3,hlen,fun _=>⟨hA3,hR',by rw[ht,Nat.sub_sub],by simp only;omega,by simp only;omega,by simp only;omega⟩,fun h=>absurd rfl h⟩,aP.mk (by simp -implicitDefEqProofs only[aB,seval])⟩
    | fail i'=>
     rw[hS] at hr ht hRs
     simp only[GC] at ht hRs hr
     obtain⟨_,_,_,hRb⟩:=hRs
     cases hbk:gC p i'.chs.length i' with
     | none=>
      rw[hbk] at hr ht
      simp only at ht
      obtain⟨rfl,qt2,qc2,qn2,mx2,nd2,i2,hA2⟩:=hr
      obtain⟨s3,rfl,hb3,hA3⟩:=hA2.yT hb0
      simp -implicitDefEqProofs only[aB,seval]
      exact⟨⟨s3,qt,qc,qn,mx,nd,s,i,out,b,u,B,M,0⟩,by simp,⟨hA3.tY,hb3,hlen,fun h=>absurd h (by simp),fun _=>by rw[ht];simp⟩,aP.mk (by simp -implicitDefEqProofs only[aB,seval])⟩
     | some i2=>
      rw[hbk] at hr ht
      simp only at ht
      obtain⟨s',hR'⟩:=hRb i2 hbk
      obtain⟨rfl,qt2,qc2,qn2,mx2,nd2,hA2⟩:=hr
      obtain⟨s3,rfl,hb3,hA3⟩:=hA2.yT hb0
      simp -implicitDefEqProofs only[aB,seval]
      exact⟨⟨s3,qt2,qc2,qn2,mx2,nd2,s',i2,out,b,u+1,B+26,M+520,-1⟩,by simp;omega,⟨hA3.tY,hb3,hlen,fun _=>⟨hA3,hR',by rw[ht,Nat.sub_sub],by simp only;omega,by simp only;omega,by simp only;omega⟩,fun h=>absurd rfl h⟩,aP.mk (by simp -implicitDefEqProofs only[aB,seval])⟩
 | nil=>
  rw[hg] at mO
  simp only[List.isEmpty_nil,mY] at mO
  refine aT (fun h2=>absurd h2 (by first | rw[hg];simp | simp)) (fun h2=>?_)
  simp -implicitDefEqProofs only[sW,aB,seval]
  rw[aS9 hg] at ht
  refine aT (fun h2=>?_) (fun h2=>?_)
  · have h':out.length=most:=by simp at h2;omega
    rw[aK (by omega)] at ht
    simp -implicitDefEqProofs only[nS,aB,seval]
    have hTe:T=(out,1):=by rw[ht];simp
    subst hTe
    exact⟨b,st,rfl,rfl,hb,hdr⟩
  have h':out.length<most:=by simp at h2;omega
  rw[aG (by omega)] at ht
  simp -implicitDefEqProofs only[eC,hg,aB,seval,JU]
  obtain⟨hgd,ho,_,_⟩:=hR.r.facts
  have hfr:26≤i.fresh:=by
   obtain⟨ρ,S',_⟩:=hR.r
   have h1:=S'.rng 25 (by omega) (by have:=S'.h26;omega)
   rw[S'.idn 25 (by omega) (by omega)] at h1
   omega
  refine(aO6 (N:=i.fresh) hgd ho vars (fun v h=>⟨(hv v h).1,by have:=(hv v h).2;omega⟩) hvl c m qt _ hA.sto.sub).to ?_
  cases oZ:gW i.σ vars with
  | none=>
   rw[oZ] at ht
   simp only[QF]
   simp only at ht
   simp -implicitDefEqProofs only[nS,aB,seval]
   have hTe:T=(out,3):=by rw[ht];simp
   subst hTe
   exact⟨b,st,rfl,rfl,hb,hdr⟩
  | some a=>
   rw[oZ] at ht
   simp only[QF]
   simp only at ht
   simp -implicitDefEqProofs only[aB,seval,JU]
   refine fT (P:=prog) (b:=b) (l:=out.map aY) (xs:=[aY a]) fA gY gZ rfl rfl (g9 rfl rfl) (IL out) hb (by simp only[bA,bS,hlo];omega) (by simp only[bA,bS,hlo];omega) (fun b' hb'=>?_)
   rw[show(out.map aY)++ [aY a]=(out++ [a]).map aY by simp] at hb' ⊢
   have hA':=ha.acc hb'
   have aFU:(out++ [a]).map aY≠[]→st0 b'=none:=fun h=>(hdr b').1 (hb' h)
   have aRF:=hA'.cell
   simp only[gE] at aRF
   simp -implicitDefEqProofs only[aB,seval]
   have hbk:=LX hp (M:=M) (by omega) _ qt qc qn mx nd i s.chs (st0:=bE st0 b' ((out++ [a]).map aY)) (S:=S) (c:=c) (m:=m) (q:=q) (idx:=idx) (fuel:=fuel) (used:=u) (T:=gC p i.chs.length i) ⟨hA',hR.cr,hR.x,rfl,by have:=hR.oR;have:=hR.n;constructor<;>omega⟩
   refine hbk.mono ?_
   rintro r s2 hr
   have hln:(out++ [a]).length=out.length+1:=by simp
   cases hbk:gC p i.chs.length i with
   | none=>
    rw[hbk] at hr ht
    simp only at ht
    obtain⟨rfl,qt2,qc2,qn2,mx2,nd2,i2,hA2⟩:=hr
    obtain⟨s3,rfl,hb3,hA3⟩:=hA2.yT aFU
    simp -implicitDefEqProofs only[aB,seval]
    exact⟨⟨s3,qt,qc,qn,mx,nd,s,i,out++ [a],b',u,B,M,0⟩,by simp only[hln];simp;omega,⟨hA3.tY,hb3,by simp only[hln];omega,fun h=>absurd h (by simp),fun _=>by rw[ht]⟩,aP.mk (by simp -implicitDefEqProofs only[aB,seval])⟩
   | some i2=>
    rw[hbk] at hr ht
    simp only at ht
    obtain⟨s',hR'⟩:=hR.back hp (by omega) hbk
    obtain⟨rfl,qt2,qc2,qn2,mx2,nd2,hA2⟩:=hr
    obtain⟨s3,rfl,hb3,hA3⟩:=hA2.yT aFU
    simp -implicitDefEqProofs only[aB,seval]
    exact⟨⟨s3,qt2,qc2,qn2,mx2,nd2,s',i2,out++ [a],b',u,B,M,-1⟩,by simp [hln];omega,⟨hA3.tY,hb3,by simp only[hln];omega,fun _=>⟨hA3,hR',by rw[ht];simp only[hln,lA,gF,e9,Nat.sub_sub],hu,hBB,hMM⟩,fun h=>absurd rfl h⟩,aP.mk (by simp -implicitDefEqProofs only[aB,seval])⟩
end Go.AW
