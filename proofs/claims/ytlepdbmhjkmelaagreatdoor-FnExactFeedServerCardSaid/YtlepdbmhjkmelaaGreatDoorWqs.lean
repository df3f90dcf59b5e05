import Derived.Test.YtlepdbmhjkmelaaGreatDoorWqr
import Derived.Test.YtlepdbmhjkmelaaGreatDoorWqg
import Derived.Test.YtlepdbmhjkmelaaGreatDoorWqi
set_option linter.unusedSimpArgs false
set_option linter.unusedVariables false
set_option maxRecDepth 100000
namespace Go.AW
open Go.Proofs.Tryz
theorem AP(l:List Fr):tO 2 (l.map bJ):=fun e he=>by simp only[cF] at he;obtain⟨t,_,rfl⟩:=he;exact⟨rfl,rfl⟩
theorem AJ(l:List eF):∀e∈l.map bP,e.width=13:=by intro e h;simp only[cF] at h;obtain⟨t,_,rfl⟩:=h;rfl
theorem GY(l:List eF):∀e∈l.map bP,e.bV=false:=by intro e h;simp only[cF] at h;obtain⟨t,_,rfl⟩:=h;rfl
theorem TW:∀t:Tm,t.sz≤1048576→t.small=true:=by
 intro t
 induction t using Tm.ind with
 | h k n s ts ih=>
  intro h
  rw[Tm.MT] at h
  simp only[Tm.small,IY,cY,bM,fU]
  exact⟨by omega,fun x hx=>ih x hx (by have:=pC (f:=Tm.sz) hx;omega)⟩
theorem ZP{l:List Cl}(h:sV l≤1048576):l.length≤1048576∧∀c∈l,AH c:=by
 unfold sV at h
 refine⟨by omega,fun c hc=>?_⟩
 have h1:=pC (f:=mR) hc
 have h2:mR c=c.1.sz+(c.2.length+aH Tm.sz c.2):=rfl
 exact⟨TW _ (by omega),by omega,fun x hx=>TW x (by have:=pC (f:=Tm.sz) hx;omega)⟩
theorem QK{c:eF}(h:fH c≤1048576):c.rest.length≤1048576∧c.wait.length≤1048576∧c.out.length≤1048576∧(c.prog.length≤1048576∧∀x∈c.prog,AH x)∧(c.ses.p.length≤1048576∧∀x∈c.ses.p,AH x)∧c.ses.q.length≤1048576∧∀x∈c.ses.q,x.small=true:=by
 unfold fH zA sW at h
 refine⟨by omega,by omega,by omega,ZP (by omega),ZP (by omega),?_,fun x hx=>?_⟩
 · unfold rL at h;omega
 · unfold rL at h
   exact TW x (by have:=pC (f:=Tm.sz) hx;omega)
theorem S3{st:aA}{b2 c:Nat}{o o':AO}(hb2:st b2=none)(hc:(st.aC b2 o) c=none):fW st ((st.aC b2 o).aC c o') [b2,c] []:=by
 have hne:c≠b2:=by rintro rfl;rw[aA.aJ] at hc;cases hc
 have hcn:st c=none:=by rw[aA.aF st _ hne] at hc;exact hc
 refine fW.start (fun d hd=>?_) (fun x o h=>?_)
 · simp only[cG,cX,dG] at hd
   rcases hd with rfl | rfl
   · exact⟨hb2,by rw[aA.aF _ _ (dA hne),aA.aJ];simp⟩
   · exact⟨hcn,by rw[aA.aJ];simp⟩
 · have h1:x≠b2:=by rintro rfl;rw[hb2] at h;cases h
   have h2:x≠c:=by rintro rfl;rw[hcn] at h;cases h
   rw[aA.aF _ _ h2,aA.aF _ _ h1];exact h
abbrev kW:=zi aX (zi cB (zi iQ (zi oE (zi lM (zi gL (zi oF (zi oG kX)))))))
set_option maxHeartbeats 1000000 in
theorem aU7(c:eF)(hb:fH c≤1048576)(st:aA):aD prog 28 [bP c] st (fun r st'=>r=bP c∧st'=st):=by
 obtain⟨k1,k2,k3,⟨k4,k5⟩,⟨k6,k7⟩,k8,k9⟩:=QK hb
 obtain⟨r,bk,wt,pr,ac,ss,td,ou⟩:=c
 simp only at k1 k2 k3 k4 k5 k6 k7 k8 k9
 have h10:=fun s=>aU3 ss k6 k7 k8 k9 s
 simp only[bP,wM]
 unfold gU at h10
 refine aD.told ?_
 refine wF [1000000,3] 1 func28 ntmps28 rfl rfl ?_
 intro _
 simp only[aB,seval,kW]
 intro b2 hb2
 refine aSF (.br [(0,1),(1,1),(2,1),(3,1),(4,1),(5,1)] 6 8 (.fin [(7,1),(8,0),(9,0)]) (.fin [(6,0),(7,1),(9,0)])) [0,1,2,3,4,5,7] dJ mixed (by decide +kernel) rfl (by decide +kernel) dF ?_
 simp only[OY,V3,aQ4,aQ5,V8,aB,seval,kW]
 refine⟨?_,fun c hc=>⟨dF,?_⟩⟩
 · refine(h10 _).to ?_
   simp only[aM,OY,V8,aB,seval,kW]
   refine⟨dF,fun c hc=>⟨dF,dF,?_⟩⟩
   have hne:c≠b2:=by rintro rfl;rw[aA.aJ] at hc;cases hc
   have C0:fW st ((st.aC b2 (.cells [.fslice [],.bool false,.fslice [],.fslice [],.bool false,.fslice [],.fslice [],.int .i64 0,.int .i64 0,.int .i64 0,.int .i64 0,.bool false,.fslice []])).aC c (.cells [.fslice [],.bool false,.fslice [],.fslice [],.bool ac,.slice (ss.p.map aG),.slice (ss.q.map Tm.av),.int .i64 ss.bB,.int .i64 ss.used,.int .i64 ss.bL,.int .i64 ss.fin,.bool td,.fslice []])) [b2,c] []:=S3 hb2 hc
   have e0:((st.aC b2 (.cells [.fslice [],.bool false,.fslice [],.fslice [],.bool false,.fslice [],.fslice [],.int .i64 0,.int .i64 0,.int .i64 0,.int .i64 0,.bool false,.fslice []])).aC c (.cells [.fslice [],.bool false,.fslice [],.fslice [],.bool ac,.slice (ss.p.map aG),.slice (ss.q.map Tm.av),.int .i64 ss.bB,.int .i64 ss.used,.int .i64 ss.bL,.int .i64 ss.fin,.bool td,.fslice []])) c=some (.cells [.fslice [],.bool false,.fslice [],.fslice [],.bool ac,.slice (ss.p.map aG),.slice (ss.q.map Tm.av),.int .i64 ss.bB,.int .i64 ss.used,.int .i64 ss.bL,.int .i64 ss.fin,.bool td,.fslice []]):=aA.aJ _ _ _
   have g0:((st.aC b2 (.cells [.fslice [],.bool false,.fslice [],.fslice [],.bool false,.fslice [],.fslice [],.int .i64 0,.int .i64 0,.int .i64 0,.int .i64 0,.bool false,.fslice []])).aC c (.cells [.fslice [],.bool false,.fslice [],.fslice [],.bool ac,.slice (ss.p.map aG),.slice (ss.q.map Tm.av),.int .i64 ss.bB,.int .i64 ss.used,.int .i64 ss.bL,.int .i64 ss.fin,.bool td,.fslice []])) b2=some (.cells [.fslice [],.bool false,.fslice [],.fslice [],.bool false,.fslice [],.fslice [],.int .i64 0,.int .i64 0,.int .i64 0,.int .i64 0,.bool false,.fslice []]):=by rw[aA.aF _ _ hne.symm,aA.aJ]
   generalize (st.aC b2 (.cells [.fslice [],.bool false,.fslice [],.fslice [],.bool false,.fslice [],.fslice [],.int .i64 0,.int .i64 0,.int .i64 0,.int .i64 0,.bool false,.fslice []])).aC c (.cells [.fslice [],.bool false,.fslice [],.fslice [],.bool ac,.slice (ss.p.map aG),.slice (ss.q.map Tm.av),.int .i64 ss.bB,.int .i64 ss.used,.int .i64 ss.bL,.int .i64 ss.fin,.bool td,.fslice []])=s0 at *
   refine wX [(0,1),(1,1),(2,1),(3,1),(5,1),(6,1),(7,1),(4,0),(8,1),(9,1),(10,2)] [0,1,2,3,5,6,7,8,9] dJ mixed rfl dF ?_
   simp only[aB,seval,kW]
   refine dY.tP (w:=1) (l:=[]) (xs:=r.map bX) jC tV tX rfl (by decide) (.inl ⟨rfl,rfl⟩) rfl (wI r) (by simp only[bG,aE];omega) (fun q1 s1 A1 K1 F1=>?_)
   rw[eE] at A1
   obtain⟨C1,f1,-⟩:=(C0.new 1).grow A1 K1 F1
   have e1:s1 c=some (.cells [.fslice [],.bool false,.fslice [],.fslice [],.bool ac,.slice (ss.p.map aG),.slice (ss.q.map Tm.av),.int .i64 ss.bB,.int .i64 ss.used,.int .i64 ss.bL,.int .i64 ss.fin,.bool td,.fslice []]):=(f1 c (by simp)).trans e0
   have g1:=(f1 b2 (by simp)).trans g0
   obtain⟨z11,z12,z13,z14,z15⟩:=A1.shape
   simp only[aM,e1,z13,z14,z15,aB,seval,kW]
   refine⟨dF,?_⟩
   have C1:=C1.aC (d:=c) (by simp) (.cells [q1,.bool bk,.fslice [],.fslice [],.bool ac,.slice (ss.p.map aG),.slice (ss.q.map Tm.av),.int .i64 ss.bB,.int .i64 ss.used,.int .i64 ss.bL,.int .i64 ss.fin,.bool td,.fslice []])
   have e1:(s1.aC c (.cells [q1,.bool bk,.fslice [],.fslice [],.bool ac,.slice (ss.p.map aG),.slice (ss.q.map Tm.av),.int .i64 ss.bB,.int .i64 ss.used,.int .i64 ss.bL,.int .i64 ss.fin,.bool td,.fslice []])) c=some (.cells [q1,.bool bk,.fslice [],.fslice [],.bool ac,.slice (ss.p.map aG),.slice (ss.q.map Tm.av),.int .i64 ss.bB,.int .i64 ss.used,.int .i64 ss.bL,.int .i64 ss.fin,.bool td,.fslice []]):=aA.aJ _ _ _
   have g1:=(aA.aF s1 (.cells [q1,.bool bk,.fslice [],.fslice [],.bool ac,.slice (ss.p.map aG),.slice (ss.q.map Tm.av),.int .i64 ss.bB,.int .i64 ss.used,.int .i64 ss.bL,.int .i64 ss.fin,.bool td,.fslice []]) hne.symm).trans g1
   generalize s1.aC c (.cells [q1,.bool bk,.fslice [],.fslice [],.bool ac,.slice (ss.p.map aG),.slice (ss.q.map Tm.av),.int .i64 ss.bB,.int .i64 ss.used,.int .i64 ss.bL,.int .i64 ss.fin,.bool td,.fslice []])=t1 at *
   refine dY.tP (w:=2) (l:=[]) (xs:=wt.map bJ) mS tW tY rfl (by decide) (.inl ⟨rfl,rfl⟩) rfl (AP wt) (by simp only[bG,aE];omega) (fun q2 s2 A2 K2 F2=>?_)
   rw[eE] at A2
   obtain⟨C2,f2,-⟩:=(C1.new 2).grow A2 K2 F2
   have e2:s2 c=some (.cells [q1,.bool bk,.fslice [],.fslice [],.bool ac,.slice (ss.p.map aG),.slice (ss.q.map Tm.av),.int .i64 ss.bB,.int .i64 ss.used,.int .i64 ss.bL,.int .i64 ss.fin,.bool td,.fslice []]):=(f2 c (by simp)).trans e1
   have g2:=(f2 b2 (by simp)).trans g1
   obtain⟨z21,z22,z23,z24,z25⟩:=A2.shape
   simp only[aM,e2,z24,z25,aB,seval,kW]
   have C2:=C2.aC (d:=c) (by simp) (.cells [q1,.bool bk,q2,.fslice [],.bool ac,.slice (ss.p.map aG),.slice (ss.q.map Tm.av),.int .i64 ss.bB,.int .i64 ss.used,.int .i64 ss.bL,.int .i64 ss.fin,.bool td,.fslice []])
   have e2:(s2.aC c (.cells [q1,.bool bk,q2,.fslice [],.bool ac,.slice (ss.p.map aG),.slice (ss.q.map Tm.av),.int .i64 ss.bB,.int .i64 ss.used,.int .i64 ss.bL,.int .i64 ss.fin,.bool td,.fslice []])) c=some (.cells [q1,.bool bk,q2,.fslice [],.bool ac,.slice (ss.p.map aG),.slice (ss.q.map Tm.av),.int .i64 ss.bB,.int .i64 ss.used,.int .i64 ss.bL,.int .i64 ss.fin,.bool td,.fslice []]):=aA.aJ _ _ _
   have g2:=(aA.aF s2 (.cells [q1,.bool bk,q2,.fslice [],.bool ac,.slice (ss.p.map aG),.slice (ss.q.map Tm.av),.int .i64 ss.bB,.int .i64 ss.used,.int .i64 ss.bL,.int .i64 ss.fin,.bool td,.fslice []]) hne.symm).trans g2
   generalize s2.aC c (.cells [q1,.bool bk,q2,.fslice [],.bool ac,.slice (ss.p.map aG),.slice (ss.q.map Tm.av),.int .i64 ss.bB,.int .i64 ss.used,.int .i64 ss.bL,.int .i64 ss.fin,.bool td,.fslice []])=t2 at *
   refine dY.tP (w:=2) (l:=[]) (xs:=ou.map bJ) mS tW tY rfl (by decide) (.inl ⟨rfl,rfl⟩) rfl (AP ou) (by simp only[bG,aE];omega) (fun q3 s3 A3 K3 F3=>?_)
   rw[eE] at A3
   obtain⟨C3,f3,-⟩:=(C2.new 2).grow A3 K3 F3
   have e3:s3 c=some (.cells [q1,.bool bk,q2,.fslice [],.bool ac,.slice (ss.p.map aG),.slice (ss.q.map Tm.av),.int .i64 ss.bB,.int .i64 ss.used,.int .i64 ss.bL,.int .i64 ss.fin,.bool td,.fslice []]):=(f3 c (by simp)).trans e2
   have g3:=(f3 b2 (by simp)).trans g2
   obtain⟨z31,z32,z33,z34,z35⟩:=A3.shape
   simp only[aM,e3,z34,z35,aB,seval,kW]
   have C3:=C3.aC (d:=c) (by simp) (.cells [q1,.bool bk,q2,.fslice [],.bool ac,.slice (ss.p.map aG),.slice (ss.q.map Tm.av),.int .i64 ss.bB,.int .i64 ss.used,.int .i64 ss.bL,.int .i64 ss.fin,.bool td,q3])
   have e3:(s3.aC c (.cells [q1,.bool bk,q2,.fslice [],.bool ac,.slice (ss.p.map aG),.slice (ss.q.map Tm.av),.int .i64 ss.bB,.int .i64 ss.used,.int .i64 ss.bL,.int .i64 ss.fin,.bool td,q3])) c=some (.cells [q1,.bool bk,q2,.fslice [],.bool ac,.slice (ss.p.map aG),.slice (ss.q.map Tm.av),.int .i64 ss.bB,.int .i64 ss.used,.int .i64 ss.bL,.int .i64 ss.fin,.bool td,q3]):=aA.aJ _ _ _
   have g3:=(aA.aF s3 (.cells [q1,.bool bk,q2,.fslice [],.bool ac,.slice (ss.p.map aG),.slice (ss.q.map Tm.av),.int .i64 ss.bB,.int .i64 ss.used,.int .i64 ss.bL,.int .i64 ss.fin,.bool td,q3]) hne.symm).trans g3
   generalize s3.aC c (.cells [q1,.bool bk,q2,.fslice [],.bool ac,.slice (ss.p.map aG),.slice (ss.q.map Tm.av),.int .i64 ss.bB,.int .i64 ss.used,.int .i64 ss.bL,.int .i64 ss.fin,.bool td,q3])=t3 at *
   refine dI (σ:=AV×aA) [1000000,3] [1,2,3] pr (fun i p=>fW st p.2 [b2,c] ((5,p.1,(pr.take i).map aG):: [(2,q3,ou.map bJ),(2,q2,wt.map bJ),(1,q1,r.map bX)])∧p.2 c=some (.cells [q1,.bool bk,q2,p.1,.bool ac,.slice (ss.p.map aG),.slice (ss.q.map Tm.av),.int .i64 ss.bB,.int .i64 ss.used,.int .i64 ss.bL,.int .i64 ss.fin,.bool td,q3])∧p.2 b2=some (.cells [.fslice [],.bool false,.fslice [],.fslice [],.bool false,.fslice [],.fslice [],.int .i64 0,.int .i64 0,.int .i64 0,.int .i64 0,.bool false,.fslice []])) (fun i _=>[(4,.int .i64 i)]) (fun _ p=>p.2) (by decide +kernel)
    ⟨(.fslice [],t3),⟨C3.new 5,e3,g3⟩,aP.mk (by simp only[aB,↓aW,seval])⟩ (fun i x p hx hlt a7 hdr hinv=>?_) (fun p hge hinv=>?_)
   case refine_2=>
    obtain⟨q4,s4⟩:=p
    obtain⟨C4,e4,g4⟩:=hinv
    simp only at C4 e4 g4
    rw[eD] at C4
    obtain⟨z41,z42,z43,z44,z45⟩:=(C4.acc _ (l8 ..)).shape
    have fM:∀s5:aA,fW st s5 [b2,c] [(5,q4,pr.map aG),(2,q3,ou.map bJ),(2,q2,wt.map bJ),(1,q1,r.map bX)]→Told s5 st (.agg [cE r,.bool bk,bO wt,.slice (pr.map aG),.bool ac,.slice (ss.p.map aG),.slice (ss.q.map Tm.av),.int .i64 ss.bB,.int .i64 ss.used,.int .i64 ss.bL,.int .i64 ss.fin,.bool td,bO ou]) (.agg [q1,.bool bk,q2,q4,.bool ac,.slice (ss.p.map aG),.slice (ss.q.map Tm.av),.int .i64 ss.bB,.int .i64 ss.used,.int .i64 ss.bL,.int .i64 ss.fin,.bool td,q3]):=fun s5 D=>by
     have T:∀h,bT h s5 h st:=fun h=>D.kH.step h
     have S:∀ {a:AV},a.bV=false→Told s5 st a a:=fun h=>Told.same T h
     have t1:=D.told (p:=(1,q1,r.map bX)) (by simp) (yF r) (wJ r)
     have t2:=D.told (p:=(2,q2,wt.map bJ)) (by simp) (sN wt) (oW wt)
     have t3:=D.told (p:=(2,q3,ou.map bJ)) (by simp) (sN ou) (oW ou)
     have t4:=D.told (p:=(5,q4,pr.map aG)) (by simp) (QH pr) (KK pr)
     exact Told.agg (.cons t1 (.cons (S rfl) (.cons t2 (.cons t4 (.cons (S rfl) (.cons (S rfl) (.cons (S rfl) (.cons (S rfl) (.cons (S rfl) (.cons (S rfl) (.cons (S rfl) (.cons (S rfl) (.cons t3 .nil)))))))))))))
    simp only[hge,aM,aE,e4,g4,z15,z25,z35,z45,aB,seval,kW]
    exact⟨_,st,(C4.aC (by simp) _).kH,fM _ (C4.aC (by simp) _),rfl,rfl⟩
   obtain⟨q4,s4⟩:=p
   obtain⟨C4,e4,g4⟩:=hinv
   simp only at C4 e4 g4
   have A4:=C4.acc _ (l8 ..)
   obtain⟨z41,z42,z43,z44,z45⟩:=A4.shape
   have hw:=aZ (n:=(i:Int)+1)
   have dO:((pr.take i).map aG).length=i:=by simp only[aE,dZ];omega
   have htk:(pr.take (i+1)).map aG=(pr.take i).map aG++ [aG x]:=by rw[fN,hx];simp
   obtain⟨x1,x2,x3⟩:=k5 x (cH hx)
   have hat:=bH (av:=aG) lD hx (fQ x)
   simp only[a7,aE,aB,seval,kW]
   refine wP [(0,1),(2,1),(4,1),(1,2),(3,2),(5,1),(6,2),(7,2),(8,1),(9,0),(10,1),(11,0)] [0,2,4,1,3,5,6,7,8,10] mixed ?_
   simp only[e4,z41,hat,nU,fQ,aB,seval,kW]
   refine iD (PZ x x1 x2 x3 _) ?_
   simp only[nU,fQ,GW,aB,seval,kW]
   refine dY.append (w:=5) lD G0 G4 rfl (by decide) A4 (fQ x) (DB x) (by rw[dO];omega) (fun q5 s5 A5 K5 F5=>?_)
   rw[←htk] at A5
   obtain⟨C5,f5,-⟩:=C4.grow A5 K5 F5
   have e5:=(f5 c (by simp)).trans e4
   have g5:=(f5 b2 (by simp)).trans g4
   obtain⟨z51,z52,z53,z54,z55⟩:=A5.shape
   simp only[aM,e5,z54,z55,hw,aB,seval,kW]
   exact⟨(q5,s5.aC c (.cells [q1,.bool bk,q2,q5,.bool ac,.slice (ss.p.map aG),.slice (ss.q.map Tm.av),.int .i64 ss.bB,.int .i64 ss.used,.int .i64 ss.bL,.int .i64 ss.fin,.bool td,q3])),⟨C5.aC (by simp) _,aA.aJ _ _ _,(aA.aF _ _ hne.symm).trans g5⟩,aP.mk (by simp only[aB,seval])⟩
 · refine(h10 _).to ?_
   simp only[aM,aB,seval,kW]
   refine⟨dF,dF,?_⟩
   have hne:c≠b2:=by rintro rfl;rw[aA.aJ] at hc;cases hc
   have C0:fW st ((st.aC b2 (.cells [.fslice [],.bool false,.fslice [],.fslice [],.bool false,.fslice [],.fslice [],.int .i64 0,.int .i64 0,.int .i64 0,.int .i64 0,.bool false,.fslice []])).aC c (.cells [.fslice [],.bool false,.fslice [],.fslice [],.bool ac,.slice (ss.p.map aG),.slice (ss.q.map Tm.av),.int .i64 ss.bB,.int .i64 ss.used,.int .i64 ss.bL,.int .i64 ss.fin,.bool td,.fslice []])) [b2,c] []:=S3 hb2 hc
   have e0:((st.aC b2 (.cells [.fslice [],.bool false,.fslice [],.fslice [],.bool false,.fslice [],.fslice [],.int .i64 0,.int .i64 0,.int .i64 0,.int .i64 0,.bool false,.fslice []])).aC c (.cells [.fslice [],.bool false,.fslice [],.fslice [],.bool ac,.slice (ss.p.map aG),.slice (ss.q.map Tm.av),.int .i64 ss.bB,.int .i64 ss.used,.int .i64 ss.bL,.int .i64 ss.fin,.bool td,.fslice []])) c=some (.cells [.fslice [],.bool false,.fslice [],.fslice [],.bool ac,.slice (ss.p.map aG),.slice (ss.q.map Tm.av),.int .i64 ss.bB,.int .i64 ss.used,.int .i64 ss.bL,.int .i64 ss.fin,.bool td,.fslice []]):=aA.aJ _ _ _
   have g0:((st.aC b2 (.cells [.fslice [],.bool false,.fslice [],.fslice [],.bool false,.fslice [],.fslice [],.int .i64 0,.int .i64 0,.int .i64 0,.int .i64 0,.bool false,.fslice []])).aC c (.cells [.fslice [],.bool false,.fslice [],.fslice [],.bool ac,.slice (ss.p.map aG),.slice (ss.q.map Tm.av),.int .i64 ss.bB,.int .i64 ss.used,.int .i64 ss.bL,.int .i64 ss.fin,.bool td,.fslice []])) b2=some (.cells [.fslice [],.bool false,.fslice [],.fslice [],.bool false,.fslice [],.fslice [],.int .i64 0,.int .i64 0,.int .i64 0,.int .i64 0,.bool false,.fslice []]):=by rw[aA.aF _ _ hne.symm,aA.aJ]
   generalize (st.aC b2 (.cells [.fslice [],.bool false,.fslice [],.fslice [],.bool false,.fslice [],.fslice [],.int .i64 0,.int .i64 0,.int .i64 0,.int .i64 0,.bool false,.fslice []])).aC c (.cells [.fslice [],.bool false,.fslice [],.fslice [],.bool ac,.slice (ss.p.map aG),.slice (ss.q.map Tm.av),.int .i64 ss.bB,.int .i64 ss.used,.int .i64 ss.bL,.int .i64 ss.fin,.bool td,.fslice []])=s0 at *
   refine wX [(0,1),(1,1),(2,1),(3,1),(5,1),(6,1),(7,1),(4,0),(8,1),(9,1),(10,2)] [0,1,2,3,5,6,7,8,9] dJ mixed rfl dF ?_
   simp only[aB,seval,kW]
   refine dY.tP (w:=1) (l:=[]) (xs:=r.map bX) jC tV tX rfl (by decide) (.inl ⟨rfl,rfl⟩) rfl (wI r) (by simp only[bG,aE];omega) (fun q1 s1 A1 K1 F1=>?_)
   rw[eE] at A1
   obtain⟨C1,f1,-⟩:=(C0.new 1).grow A1 K1 F1
   have e1:s1 c=some (.cells [.fslice [],.bool false,.fslice [],.fslice [],.bool ac,.slice (ss.p.map aG),.slice (ss.q.map Tm.av),.int .i64 ss.bB,.int .i64 ss.used,.int .i64 ss.bL,.int .i64 ss.fin,.bool td,.fslice []]):=(f1 c (by simp)).trans e0
   have g1:=(f1 b2 (by simp)).trans g0
   obtain⟨z11,z12,z13,z14,z15⟩:=A1.shape
   simp only[aM,e1,z13,z14,z15,aB,seval,kW]
   refine⟨dF,?_⟩
   have C1:=C1.aC (d:=c) (by simp) (.cells [q1,.bool bk,.fslice [],.fslice [],.bool ac,.slice (ss.p.map aG),.slice (ss.q.map Tm.av),.int .i64 ss.bB,.int .i64 ss.used,.int .i64 ss.bL,.int .i64 ss.fin,.bool td,.fslice []])
   have e1:(s1.aC c (.cells [q1,.bool bk,.fslice [],.fslice [],.bool ac,.slice (ss.p.map aG),.slice (ss.q.map Tm.av),.int .i64 ss.bB,.int .i64 ss.used,.int .i64 ss.bL,.int .i64 ss.fin,.bool td,.fslice []])) c=some (.cells [q1,.bool bk,.fslice [],.fslice [],.bool ac,.slice (ss.p.map aG),.slice (ss.q.map Tm.av),.int .i64 ss.bB,.int .i64 ss.used,.int .i64 ss.bL,.int .i64 ss.fin,.bool td,.fslice []]):=aA.aJ _ _ _
   have g1:=(aA.aF s1 (.cells [q1,.bool bk,.fslice [],.fslice [],.bool ac,.slice (ss.p.map aG),.slice (ss.q.map Tm.av),.int .i64 ss.bB,.int .i64 ss.used,.int .i64 ss.bL,.int .i64 ss.fin,.bool td,.fslice []]) hne.symm).trans g1
   generalize s1.aC c (.cells [q1,.bool bk,.fslice [],.fslice [],.bool ac,.slice (ss.p.map aG),.slice (ss.q.map Tm.av),.int .i64 ss.bB,.int .i64 ss.used,.int .i64 ss.bL,.int .i64 ss.fin,.bool td,.fslice []])=t1 at *
   refine dY.tP (w:=2) (l:=[]) (xs:=wt.map bJ) mS tW tY rfl (by decide) (.inl ⟨rfl,rfl⟩) rfl (AP wt) (by simp only[bG,aE];omega) (fun q2 s2 A2 K2 F2=>?_)
   rw[eE] at A2
   obtain⟨C2,f2,-⟩:=(C1.new 2).grow A2 K2 F2
   have e2:s2 c=some (.cells [q1,.bool bk,.fslice [],.fslice [],.bool ac,.slice (ss.p.map aG),.slice (ss.q.map Tm.av),.int .i64 ss.bB,.int .i64 ss.used,.int .i64 ss.bL,.int .i64 ss.fin,.bool td,.fslice []]):=(f2 c (by simp)).trans e1
   have g2:=(f2 b2 (by simp)).trans g1
   obtain⟨z21,z22,z23,z24,z25⟩:=A2.shape
   simp only[aM,e2,z24,z25,aB,seval,kW]
   have C2:=C2.aC (d:=c) (by simp) (.cells [q1,.bool bk,q2,.fslice [],.bool ac,.slice (ss.p.map aG),.slice (ss.q.map Tm.av),.int .i64 ss.bB,.int .i64 ss.used,.int .i64 ss.bL,.int .i64 ss.fin,.bool td,.fslice []])
   have e2:(s2.aC c (.cells [q1,.bool bk,q2,.fslice [],.bool ac,.slice (ss.p.map aG),.slice (ss.q.map Tm.av),.int .i64 ss.bB,.int .i64 ss.used,.int .i64 ss.bL,.int .i64 ss.fin,.bool td,.fslice []])) c=some (.cells [q1,.bool bk,q2,.fslice [],.bool ac,.slice (ss.p.map aG),.slice (ss.q.map Tm.av),.int .i64 ss.bB,.int .i64 ss.used,.int .i64 ss.bL,.int .i64 ss.fin,.bool td,.fslice []]):=aA.aJ _ _ _
   have g2:=(aA.aF s2 (.cells [q1,.bool bk,q2,.fslice [],.bool ac,.slice (ss.p.map aG),.slice (ss.q.map Tm.av),.int .i64 ss.bB,.int .i64 ss.used,.int .i64 ss.bL,.int .i64 ss.fin,.bool td,.fslice []]) hne.symm).trans g2
   generalize s2.aC c (.cells [q1,.bool bk,q2,.fslice [],.bool ac,.slice (ss.p.map aG),.slice (ss.q.map Tm.av),.int .i64 ss.bB,.int .i64 ss.used,.int .i64 ss.bL,.int .i64 ss.fin,.bool td,.fslice []])=t2 at *
   refine dY.tP (w:=2) (l:=[]) (xs:=ou.map bJ) mS tW tY rfl (by decide) (.inl ⟨rfl,rfl⟩) rfl (AP ou) (by simp only[bG,aE];omega) (fun q3 s3 A3 K3 F3=>?_)
   rw[eE] at A3
   obtain⟨C3,f3,-⟩:=(C2.new 2).grow A3 K3 F3
   have e3:s3 c=some (.cells [q1,.bool bk,q2,.fslice [],.bool ac,.slice (ss.p.map aG),.slice (ss.q.map Tm.av),.int .i64 ss.bB,.int .i64 ss.used,.int .i64 ss.bL,.int .i64 ss.fin,.bool td,.fslice []]):=(f3 c (by simp)).trans e2
   have g3:=(f3 b2 (by simp)).trans g2
   obtain⟨z31,z32,z33,z34,z35⟩:=A3.shape
   simp only[aM,e3,z34,z35,aB,seval,kW]
   have C3:=C3.aC (d:=c) (by simp) (.cells [q1,.bool bk,q2,.fslice [],.bool ac,.slice (ss.p.map aG),.slice (ss.q.map Tm.av),.int .i64 ss.bB,.int .i64 ss.used,.int .i64 ss.bL,.int .i64 ss.fin,.bool td,q3])
   have e3:(s3.aC c (.cells [q1,.bool bk,q2,.fslice [],.bool ac,.slice (ss.p.map aG),.slice (ss.q.map Tm.av),.int .i64 ss.bB,.int .i64 ss.used,.int .i64 ss.bL,.int .i64 ss.fin,.bool td,q3])) c=some (.cells [q1,.bool bk,q2,.fslice [],.bool ac,.slice (ss.p.map aG),.slice (ss.q.map Tm.av),.int .i64 ss.bB,.int .i64 ss.used,.int .i64 ss.bL,.int .i64 ss.fin,.bool td,q3]):=aA.aJ _ _ _
   have g3:=(aA.aF s3 (.cells [q1,.bool bk,q2,.fslice [],.bool ac,.slice (ss.p.map aG),.slice (ss.q.map Tm.av),.int .i64 ss.bB,.int .i64 ss.used,.int .i64 ss.bL,.int .i64 ss.fin,.bool td,q3]) hne.symm).trans g3
   generalize s3.aC c (.cells [q1,.bool bk,q2,.fslice [],.bool ac,.slice (ss.p.map aG),.slice (ss.q.map Tm.av),.int .i64 ss.bB,.int .i64 ss.used,.int .i64 ss.bL,.int .i64 ss.fin,.bool td,q3])=t3 at *
   refine dI (σ:=AV×aA) [1000000,3] [1,2,3] pr (fun i p=>fW st p.2 [b2,c] ((5,p.1,(pr.take i).map aG):: [(2,q3,ou.map bJ),(2,q2,wt.map bJ),(1,q1,r.map bX)])∧p.2 c=some (.cells [q1,.bool bk,q2,p.1,.bool ac,.slice (ss.p.map aG),.slice (ss.q.map Tm.av),.int .i64 ss.bB,.int .i64 ss.used,.int .i64 ss.bL,.int .i64 ss.fin,.bool td,q3])∧p.2 b2=some (.cells [.fslice [],.bool false,.fslice [],.fslice [],.bool false,.fslice [],.fslice [],.int .i64 0,.int .i64 0,.int .i64 0,.int .i64 0,.bool false,.fslice []])) (fun i _=>[(4,.int .i64 i)]) (fun _ p=>p.2) (by decide +kernel)
    ⟨(.fslice [],t3),⟨C3.new 5,e3,g3⟩,aP.mk (by simp only[aB,↓aW,seval])⟩ (fun i x p hx hlt a7 hdr hinv=>?_) (fun p hge hinv=>?_)
   case refine_2=>
    obtain⟨q4,s4⟩:=p
    obtain⟨C4,e4,g4⟩:=hinv
    simp only at C4 e4 g4
    rw[eD] at C4
    obtain⟨z41,z42,z43,z44,z45⟩:=(C4.acc _ (l8 ..)).shape
    have fM:∀s5:aA,fW st s5 [b2,c] [(5,q4,pr.map aG),(2,q3,ou.map bJ),(2,q2,wt.map bJ),(1,q1,r.map bX)]→Told s5 st (.agg [cE r,.bool bk,bO wt,.slice (pr.map aG),.bool ac,.slice (ss.p.map aG),.slice (ss.q.map Tm.av),.int .i64 ss.bB,.int .i64 ss.used,.int .i64 ss.bL,.int .i64 ss.fin,.bool td,bO ou]) (.agg [q1,.bool bk,q2,q4,.bool ac,.slice (ss.p.map aG),.slice (ss.q.map Tm.av),.int .i64 ss.bB,.int .i64 ss.used,.int .i64 ss.bL,.int .i64 ss.fin,.bool td,q3]):=fun s5 D=>by
     have T:∀h,bT h s5 h st:=fun h=>D.kH.step h
     have S:∀ {a:AV},a.bV=false→Told s5 st a a:=fun h=>Told.same T h
     have t1:=D.told (p:=(1,q1,r.map bX)) (by simp) (yF r) (wJ r)
     have t2:=D.told (p:=(2,q2,wt.map bJ)) (by simp) (sN wt) (oW wt)
     have t3:=D.told (p:=(2,q3,ou.map bJ)) (by simp) (sN ou) (oW ou)
     have t4:=D.told (p:=(5,q4,pr.map aG)) (by simp) (QH pr) (KK pr)
     exact Told.agg (.cons t1 (.cons (S rfl) (.cons t2 (.cons t4 (.cons (S rfl) (.cons (S rfl) (.cons (S rfl) (.cons (S rfl) (.cons (S rfl) (.cons (S rfl) (.cons (S rfl) (.cons (S rfl) (.cons t3 .nil)))))))))))))
    simp only[hge,aM,aE,e4,g4,z15,z25,z35,z45,aB,seval,kW]
    exact⟨_,st,(C4.aC (by simp) _).kH,fM _ (C4.aC (by simp) _),rfl,rfl⟩
   obtain⟨q4,s4⟩:=p
   obtain⟨C4,e4,g4⟩:=hinv
   simp only at C4 e4 g4
   have A4:=C4.acc _ (l8 ..)
   obtain⟨z41,z42,z43,z44,z45⟩:=A4.shape
   have hw:=aZ (n:=(i:Int)+1)
   have dO:((pr.take i).map aG).length=i:=by simp only[aE,dZ];omega
   have htk:(pr.take (i+1)).map aG=(pr.take i).map aG++ [aG x]:=by rw[fN,hx];simp
   obtain⟨x1,x2,x3⟩:=k5 x (cH hx)
   have hat:=bH (av:=aG) lD hx (fQ x)
   simp only[a7,aE,aB,seval,kW]
   refine wP [(0,1),(2,1),(4,1),(1,2),(3,2),(5,1),(6,2),(7,2),(8,1),(9,0),(10,1),(11,0)] [0,2,4,1,3,5,6,7,8,10] mixed ?_
   simp only[e4,z41,hat,nU,fQ,aB,seval,kW]
   refine iD (PZ x x1 x2 x3 _) ?_
   simp only[nU,fQ,GW,aB,seval,kW]
   refine dY.append (w:=5) lD G0 G4 rfl (by decide) A4 (fQ x) (DB x) (by rw[dO];omega) (fun q5 s5 A5 K5 F5=>?_)
   rw[←htk] at A5
   obtain⟨C5,f5,-⟩:=C4.grow A5 K5 F5
   have e5:=(f5 c (by simp)).trans e4
   have g5:=(f5 b2 (by simp)).trans g4
   obtain⟨z51,z52,z53,z54,z55⟩:=A5.shape
   simp only[aM,e5,z54,z55,hw,aB,seval,kW]
   exact⟨(q5,s5.aC c (.cells [q1,.bool bk,q2,q5,.bool ac,.slice (ss.p.map aG),.slice (ss.q.map Tm.av),.int .i64 ss.bB,.int .i64 ss.used,.int .i64 ss.bL,.int .i64 ss.fin,.bool td,q3])),⟨C5.aC (by simp) _,aA.aJ _ _ _,(aA.aF _ _ hne.symm).trans g5⟩,aP.mk (by simp only[aB,seval])⟩
abbrev E5:=zi aX (zi oD (zi tA oG))
theorem aU8(s:Sv)(hb:pD s.cs≤1048576)(st:aA):aD prog 15 [fJ s] st (fun r st'=>∃q,r=.agg [q,.int .i64 s.bB]∧OO st 13 q (s.cs.map bP) st'):=by
 obtain⟨cs,qu⟩:=s
 simp only at hb
 simp only[fJ]
 refine aD.oT ?_
 refine wF [1000000,3] 1 func15 ntmps15 rfl rfl ?_
 intro _
 simp only[aM,aB,↓aW,seval,E5]
 intro b2 hb2 c hc
 have hne:c≠b2:=by rintro rfl;rw[aA.aJ] at hc;cases hc
 have C0:fW st ((st.aC b2 (.cells [.fslice [],.int .i64 0])).aC c (.cells [.fslice [],.int .i64 qu])) [b2,c] []:=S3 hb2 hc
 have e0:((st.aC b2 (.cells [.fslice [],.int .i64 0])).aC c (.cells [.fslice [],.int .i64 qu])) c=some (.cells [.fslice [],.int .i64 qu]):=aA.aJ _ _ _
 have g0:((st.aC b2 (.cells [.fslice [],.int .i64 0])).aC c (.cells [.fslice [],.int .i64 qu])) b2=some (.cells [.fslice [],.int .i64 0]):=by rw[aA.aF _ _ hne.symm,aA.aJ]
 generalize (st.aC b2 (.cells [.fslice [],.int .i64 0])).aC c (.cells [.fslice [],.int .i64 qu])=s0 at *
 refine dI (σ:=AV×aA) [1000000,3] [1,2,3] cs (fun i p=>fW st p.2 [b2,c] [(13,p.1,(cs.take i).map bP)]∧p.2 c=some (.cells [p.1,.int .i64 qu])∧p.2 b2=some (.cells [.fslice [],.int .i64 0])) (fun i _=>[(4,.int .i64 i)]) (fun _ p=>p.2) (by decide +kernel)
  ⟨(.fslice [],s0),⟨C0.new 13,e0,g0⟩,aP.mk (by simp only[aB,↓aW,seval])⟩ (fun i x p hx hlt a7 hdr hinv=>?_) (fun p hge hinv=>?_)
 case refine_2=>
  obtain⟨q4,s4⟩:=p
  obtain⟨C4,e4,g4⟩:=hinv
  simp only at C4 e4 g4
  rw[eD] at C4
  obtain⟨z41,z42,z43,z44,z45⟩:=(C4.acc _ (l8 ..)).shape
  simp only[hge,aM,aE,e4,g4,z45,aB,seval,E5]
  obtain⟨s2,d2,G⟩:=(C4.aC (d:=b2) (by simp) (.cells [q4,.int .i64 qu])).a11
  exact⟨s2,d2,q4,rfl,G⟩
 obtain⟨q4,s4⟩:=p
 obtain⟨C4,e4,g4⟩:=hinv
 simp only at C4 e4 g4
 have A4:=C4.acc _ (l8 ..)
 obtain⟨z41,z42,z43,z44,z45⟩:=A4.shape
 have hlen:cs.length≤1048576:=by unfold pD at hb;omega
 have hw:=aZ (n:=(i:Int)+1)
 have dO:((cs.take i).map bP).length=i:=by simp only[aE,dZ];omega
 have htk:(cs.take (i+1)).map bP=(cs.take i).map bP++ [bP x]:=by rw[fN,hx];simp
 have hxs:fH x≤1048576:=nN (AI (cH hx)) hb
 have hat:=bH (av:=bP) qU hx (kR x)
 simp only[a7,aE,aB,seval,E5]
 refine wP [(0,1),(2,1),(4,1),(1,2),(3,2),(5,1),(6,2),(7,2),(8,1),(9,0),(10,1),(11,0)] [0,2,4,1,3,5,6,7,8,10] mixed ?_
 simp only[e4,z41,hat,wL,kR,aB,seval,E5]
 refine iD (aU7 x hxs _) ?_
 simp only[wL,kR,ZR,aB,seval,E5]
 refine dY.append (w:=13) qU QR Q1 rfl (by decide) A4 (kR x) (ZS x) (by rw[dO];omega) (fun q5 s5 A5 K5 F5=>?_)
 rw[←htk] at A5
 obtain⟨C5,f5,-⟩:=C4.grow A5 K5 F5
 have e5:=(f5 c (by simp)).trans e4
 have g5:=(f5 b2 (by simp)).trans g4
 obtain⟨z51,z52,z53,z54,z55⟩:=A5.shape
 simp only[aM,e5,z54,z55,hw,aB,seval,E5]
 exact⟨(q5,s5.aC c (.cells [q5,.int .i64 qu])),⟨C5.aC (by simp) _,aA.aJ _ _ _,(aA.aF _ _ hne.symm).trans g5⟩,aP.mk (by simp only[aB,seval])⟩
theorem a5O{st:aA}{b w:Nat}{l:List AV}(hf:∀(s:aA),aV s l l [])(hw:∀e∈l,e.width=w)(hb:l≠[]→st b=none):Made st (.slice l) (bQ w b l) (bK st b l):=by
 have:=SZ (hf (bK st b l)) hw
 rw[eU] at this
 refine⟨_,?_,?_,this,?_⟩
 · cases l<;>simp [pQ]
 · intro x hx
   obtain⟨rfl,hne⟩:=HW.1 hx
   exact hb hne
 · intro x hx
   by_cases h:l= []
   · rw[h,AC]
   · exact nQ fun e=>hx (HW.2 ⟨e,h⟩)
theorem aRS{w b:Nat}{l:List AV}:∀b' w',bQ w b l≠.mslice b' 0 0 w':=fun b' w'=>by
 cases l with
 | nil=>simp [bQ]
 | cons y l=>simp [bQ]
theorem a59(l:List Bt)(st:aA)(hb:l.length≤4194304):aD prog 33 [cE l] st (Made st (cE l)):=by
 refine JU func33 ntmps33 rfl rfl (by kernel_rfl) (by show 1≤_;decide +kernel) ?_
 intro _
 refine sC (nD [1000000] (by decide +kernel) ?_)
 simp only[aB,seval]
 refine sC (sC (J1 I1 (by decide +kernel) (by decide +kernel) rfl fun c hc=>?_))
 refine nD [1000000] (by decide +kernel) ?_
 simp only[aB,seval]
 refine aQ (fun h=>?_) (fun h=>?_)
 · subst h
   have hn:l= []:=by
    rcases l with _ | ⟨x,l⟩
    · rfl
    · have:=hc (by simp);cases this
   subst hn
   simp only[aB,seval]
   exact⟨[],mJ,by simp,by simp [aS],fun _ _=>rfl⟩
 · refine nD [1000000] (by decide +kernel) ?_
   simp only[aB,seval,iQ]
   refine W4 hb fun b hb'=>?_
   simp only[aB,seval]
   exact a5O (fun s=>aV.flat (by simp [bX,AV.flat])) (wJ l) hb'
theorem a6B(l:List Fr)(st:aA)(hb:l.length≤4194304):aD prog 34 [bO l] st (fun r st'=>Made st (bO l) r st'∧∀b w,r≠.mslice b 0 0 w):=by
 refine JU func34 ntmps34 rfl rfl (by kernel_rfl) (by show 1≤_;decide +kernel) ?_
 intro _
 refine sC (nD [1000000] (by decide +kernel) ?_)
 simp only[aB,seval]
 refine sC (sC (J1 VK (by decide +kernel) (by decide +kernel) rfl fun c hc=>?_))
 refine nD [1000000] (by decide +kernel) ?_
 simp only[aB,seval]
 refine aQ (fun h=>?_) (fun h=>?_)
 · subst h
   have hn:l= []:=by
    rcases l with _ | ⟨x,l⟩
    · rfl
    · have:=hc (by simp);cases this
   subst hn
   simp only[aB,seval]
   exact⟨[],mJ,by simp,by simp [aS],fun _ _=>rfl⟩
 · refine nD [1000000] (by decide +kernel) ?_
   simp only[aB,seval,lM]
   refine W6 hb fun b hb'=>?_
   simp only[aB,seval]
   exact⟨aL9 hb',aRS⟩
theorem kP.FI{es:List AV}{st:aA}{i:Nat}{os:List AV}{bs:List Nat}{b c:Nat}{s:aA}(h:kP es st i os bs b s)(hc:st c≠none)(X:AO):kP es (st.aC c X) i os bs b (s.aC c X):=by
 obtain⟨h1,h2,h3,h4,h5,h6⟩:=h
 have hcb:∀q∈bs,q≠c:=fun q hq e=>hc (e▸h4 q hq)
 refine⟨h1,aV.aU _ _ _ (fun q hq=>aA.aF _ _ (hcb q hq)) h2,h3,fun q hq=>by rw[aA.aF _ _ (hcb q hq)];exact h4 q hq,fun hne=>?_,fun q h7 h8=>?_⟩
 · obtain⟨k1,k2,k3⟩:=h5 hne
   have:b≠c:=fun e=>hc (e▸k1)
   exact⟨by rw[aA.aF _ _ this];exact k1,k2,by rw[aA.aF _ _ this];exact k3⟩
 · by_cases e:q=c
   · subst e;rw[aA.aJ,aA.aJ]
   · rw[aA.aF _ _ e,aA.aF _ _ e];exact h6 q h7 h8
theorem kP.stay{es:List AV}{st:aA}{i:Nat}{os:List AV}{bs:List Nat}{b d:Nat}{s:aA}(h:kP es st i os bs b s)(hd:st d≠none):s d=st d:=by
 obtain⟨h1,h2,h3,h4,h5,h6⟩:=h
 exact h6 d (fun hq=>hd (h4 d hq)) fun hne e=>hd (e▸(h5 hne).1)
theorem kP.under{es:List AV}{st S:aA}{i:Nat}{os:List AV}{bs:List Nat}{b:Nat}{s:aA}(h:kP es S i os bs b s)(hS:∀y o,st y=some o→S y=some o):∃s2,aO s s2∧kP es st i os bs b s2:=by
 obtain⟨h1,h2,h3,h4,h5,h6⟩:=h
 have hn:∀y,S y=none→st y=none:=fun y hy=>by
  cases e:st y with
  | none=>rfl
  | some o=>rw[hS y o e] at hy;cases hy
 refine⟨fun y=>if y∈bs∨(os≠[]∧y=b) then s y else st y,fun y=>⟨fun hy=>?_,fun o hy=>?_⟩,h1,aV.aU _ _ _ (fun q hq=>aN (.inl hq)) h2,h3,fun q hq=>hn q (h4 q hq),fun hne=>?_,fun q h7 h8=>?_⟩
 · by_cases e:y∈bs∨(os≠[]∧y=b)
   · simp only[e,dV];exact hy
   · simp only[e,cM]
     simp only[jI,not_and] at e
     rw[h6 y e.1 e.2] at hy
     exact hn y hy
 · by_cases e:y∈bs∨(os≠[]∧y=b)
   · simp only[e,dV] at hy;exact hy
   · simp only[e,cM] at hy
     simp only[jI,not_and] at e
     rw[h6 y e.1 e.2]
     exact hS y o hy
 · obtain⟨k1,k2,k3⟩:=h5 hne
   exact⟨hn b k1,k2,by simp only[hne,ne_eq,EC,and_self,or_true,dV];exact k3⟩
 · refine aK ?_
   simp only[jI,not_and]
   exact⟨h7,h8⟩
theorem a64{st:aA}{a0 a1 a2 a3 a4 a5 q0 q1 q2 q3 q4 q5:AV}{bs:List Nat}(h:aV st [a0,a1,a5,a2,a3,a4] [q0,q1,q5,q2,q3,q4] bs):∃bs',bs.Perm bs'∧aV st [a0,a1,a2,a3,a4,a5] [q0,q1,q2,q3,q4,q5] bs':=by
 simp only[aV] at h
 obtain⟨_,_,b0,_,e,rfl,h0,_,_,b1,_,rfl,rfl,h1,_,_,b5,_,rfl,rfl,h5,_,_,b2,_,rfl,rfl,h2,_,_,b3,_,rfl,rfl,h3,_,_,b4,_,rfl,rfl,h4,rfl,rfl⟩:=h
 simp only[List.cons.injEq,dE] at e
 obtain⟨rfl,rfl,rfl,rfl,rfl,rfl⟩:=e
 refine⟨b0++(b1++(b2++(b3++(b4++(b5++ []))))),?_,?_⟩
 · refine List.Perm.append_left _ (List.Perm.append_left _ ?_)
   have:=List.perm_append_comm (l₁:=b5) (l₂:=b2++(b3++(b4++ [])))
   simpa [kC] using this
 · simp only[aV]
   exact⟨_,_,b0,_,rfl,rfl,h0,_,_,b1,_,rfl,rfl,h1,_,_,b2,_,rfl,rfl,h2,_,_,b3,_,rfl,rfl,h3,_,_,b4,_,rfl,rfl,h4,_,_,b5,_,rfl,rfl,h5,rfl,rfl⟩
abbrev GX (c:eF):Prop:=c.rest.length≤4194304∧c.wait.length≤4194304∧c.out.length≤1048576∧(c.prog.length≤1048576∧∀x∈c.prog,AH x)∧(c.ses.p.length≤1048576∧∀x∈c.ses.p,AH x)∧c.ses.q.length≤1048576∧∀x∈c.ses.q,x.small=true
theorem aXI{cs:List eF}(h:pD cs≤1048576):cs.length≤1048576∧∀c∈cs,GX c:=by
 refine⟨by unfold pD at h;omega,fun c hc=>?_⟩
 obtain⟨k1,k2,k3,k4,k5,k6,k7⟩:=QK (nN (AI hc) h)
 exact⟨by omega,by omega,k3,k4,k5,k6,k7⟩
theorem aXH{c:eF}{x:List Bt}(h:fH c≤1048576)(hx:x.length≤1048576):GX (t6 c x):=by
 obtain⟨k1,k2,k3,k4,k5,k6,k7⟩:=QK h
 obtain⟨h1,h2⟩:=KZ c.rest c.brk x
 refine⟨by simp only[t6];omega,by simp only[t6,dS];omega,k3,k4,k5,k6,k7⟩
def nz3:AV→Prop
 | .agg (_::_::q::_)=>∀b w,q≠.mslice b 0 0 w
 | _=>True
abbrev sY:=zi aX (zi iQ (zi oD (zi tA (zi oE (zi lM (zi gL (zi oF oG)))))))
set_option maxHeartbeats 1000000 in
theorem YX(s:Sv)(a3E:s.cs.length≤1048576)(hb:∀c∈s.cs,GX c)(st:aA):aD prog 20 [fJ s] st (fun r st'=>∃os bs b,r=.agg [bQ 13 b os,.int .i64 s.bB]∧kP (s.cs.map bP) st s.cs.length os bs b st'∧∀o∈os,nz3 o):=by
 obtain⟨cs,qu⟩:=s
 simp only at hb a3E
 simp only[fJ]
 refine aD.oT ?_
 refine wF [1000000,3,5] 1 func20 ntmps20 rfl rfl ?_
 intro _
 simp only[aM,aE,aB,↓aW,seval,sY]
 intro b2 hb2 c hc
 have hne:c≠b2:=by rintro rfl;rw[aA.aJ] at hc;cases hc
 have hcn:st c=none:=by rw[aA.aF st _ hne] at hc;exact hc
 generalize hS0:(st.aC b2 (.cells [.fslice [],.int .i64 0])).aC c (.cells [.fslice [],.int .i64 qu])=S0
 have hS2:S0 b2=some (.cells [.fslice [],.int .i64 0]):=by rw[←hS0,aA.aF _ _ hne.symm,aA.aJ]
 have hSc:S0 c≠none:=by rw[←hS0,aA.aJ];simp
 have hSu:∀X,(S0.aC c X) c≠none:=fun X=>by rw[aA.aJ];simp
 have hS:∀y o,st y=some o→S0 y=some o:=fun y o h=>by
  have h1:y≠b2:=by rintro rfl;rw[hb2] at h;cases h
  have h2:y≠c:=by rintro rfl;rw[hcn] at h;cases h
  rw[←hS0,aA.aF _ _ h2,aA.aF _ _ h1];exact h
 have a32:S0.aC c (.cells [.fslice [],.int .i64 qu])=S0:=by rw[←hS0,dR]
 refine dI (σ:=List AV×List Nat×Nat×aA) [1000000,3,5] [2,3,10,11] cs (fun i p=>kP (cs.map bP) (S0.aC c (.cells [bQ 13 p.2.2.1 p.1,.int .i64 qu])) i p.1 p.2.1 p.2.2.1 p.2.2.2∧∀o∈p.1,nz3 o) (fun i _=>[(12,.int .i64 i)]) (fun _ p=>p.2.2.2) (by decide +kernel)
  ⟨([],[],0,S0),⟨by simp only[lT,a32];exact kP.start,by simp⟩,aP.mk (by simp only[aB,↓aW,seval])⟩ (fun i x p hx hlt a7 hdr hinv=>?_) (fun p hge hinv=>?_)
 case refine_2=>
  obtain⟨os,bs,b,s⟩:=p
  obtain⟨hG,hz⟩:=hinv
  simp only at hG hz
  have es:s c=some (.cells [bQ 13 b os,.int .i64 qu]):=(hG.stay (hSu _)).trans (aA.aJ _ _ _)
  have es2:s b2=some (.cells [.fslice [],.int .i64 0]):=(hG.stay (by rw[aA.aF _ _ hne.symm,hS2];simp)).trans (by rw[aA.aF _ _ hne.symm,hS2])
  simp only[hge,aM,es,es2,iK,aB,seval,sY]
  obtain⟨s2,d2,G2⟩:=(hG.FI (c:=b2) (by rw[aA.aF _ _ hne.symm,hS2];simp) (.cells [bQ 13 b os,.int .i64 qu])).under (st:=st) (fun y o h=>by
   have h1:y≠b2:=by rintro rfl;rw[hb2] at h;cases h
   have h2:y≠c:=by rintro rfl;rw[hcn] at h;cases h
   rw[aA.aF _ _ h1,aA.aF _ _ h2];exact hS y o h)
  exact⟨s2,d2,os,bs,b,rfl,G2,hz⟩
 obtain⟨os,bs,b,s⟩:=p
 obtain⟨hG,hz⟩:=hinv
 simp only at hG hz
 have es:s c=some (.cells [bQ 13 b os,.int .i64 qu]):=(hG.stay (hSu _)).trans (aA.aJ _ _ _)
 have es2:s b2=some (.cells [.fslice [],.int .i64 0]):=(hG.stay (by rw[aA.aF _ _ hne.symm,hS2];simp)).trans (by rw[aA.aF _ _ hne.symm,hS2])
 have hat:=bH (av:=bP) qU hx (kR x)
 obtain⟨k1,k2,k3,⟨k4,k5⟩,⟨k6,k7⟩,k8,k9⟩:=hb x (cH hx)
 have hxe:(cs.map bP)[i]?=some (bP x):=by rw[kD,hx];try rfl
 obtain⟨r,bk,wt,pr,ac,ss,td,ou⟩:=x
 simp only[bP,wM] at hat
 simp only at k1 k2 k3 k4 k5 k6 k7 k8 k9
 have hw:=aZ (n:=(i:Int)+1)
 have hse:=fun st=>a6G ss k6 k7 k8 k9 st
 unfold gU at hse
 simp only[a7,aM,hat,aB,↓aW,seval,sY]
 intro b5 h5
 have C0:fT s [b5] [] [] [] (s.aC b5 (.cells [cE r,.bool bk,bO wt,.slice (pr.map aG),.bool ac,.slice (ss.p.map aG),.slice (ss.q.map Tm.av),.int .i64 ss.bB,.int .i64 ss.used,.int .i64 ss.bL,.int .i64 ss.fin,.bool td,bO ou])):=fT.start (fun d hd=>by simp only[cG,cX,dG] at hd;subst hd;exact⟨h5,by rw[aA.aJ];simp⟩) (fun x hx=>aA.aF _ _ (by simpa using hx))
 have stay:∀ {ee oo:List AV} {bb:List Nat} {s':aA},fT s [b5] ee oo bb s'→∀d,s d≠none→s' d=s d:=fun C d hd=>C.aU d (fun h=>hd (C.fresh d h)) (by simp only[cG,cX,dG];rintro rfl;exact hd h5)
 have hbc:s c≠none:=by rw[es];simp
 refine(a59 r _ (by omega)).mono ?_
 rintro q0 s1 m1
 obtain⟨f1,bs1,C1⟩:=C0.made m1
 replace C1:fT s [b5] [cE r] [q0] bs1 s1:=C1
 have e1:=f1 b5 (by simp)
 rw[aA.aJ] at e1
 obtain⟨c0,t0,g0,w0,j0⟩:=C1.own.jO rfl q0 (by simp)
 simp only[aM,e1,c0,t0,aB,seval,sY]
 have C1:=C1.aC (d:=b5) (by simp) (.cells [q0,.bool bk,bO wt,.slice (pr.map aG),.bool ac,.slice (ss.p.map aG),.slice (ss.q.map Tm.av),.int .i64 ss.bB,.int .i64 ss.used,.int .i64 ss.bL,.int .i64 ss.fin,.bool td,bO ou])
 have e1:(s1.aC b5 (.cells [q0,.bool bk,bO wt,.slice (pr.map aG),.bool ac,.slice (ss.p.map aG),.slice (ss.q.map Tm.av),.int .i64 ss.bB,.int .i64 ss.used,.int .i64 ss.bL,.int .i64 ss.fin,.bool td,bO ou])) b5=some (.cells [q0,.bool bk,bO wt,.slice (pr.map aG),.bool ac,.slice (ss.p.map aG),.slice (ss.q.map Tm.av),.int .i64 ss.bB,.int .i64 ss.used,.int .i64 ss.bL,.int .i64 ss.fin,.bool td,bO ou]):=aA.aJ _ _ _
 generalize s1.aC b5 (.cells [q0,.bool bk,bO wt,.slice (pr.map aG),.bool ac,.slice (ss.p.map aG),.slice (ss.q.map Tm.av),.int .i64 ss.bB,.int .i64 ss.used,.int .i64 ss.bL,.int .i64 ss.fin,.bool td,bO ou])=t1 at *
 refine wX [(0,1),(1,1),(3,1),(4,1),(2,0),(6,1),(5,0),(7,2),(8,2),(9,2)] [0,1,3,4,6] (one b5 (.cells [q0,.bool bk,bO wt,.slice (pr.map aG),.bool ac,.slice (ss.p.map aG),.slice (ss.q.map Tm.av),.int .i64 ss.bB,.int .i64 ss.used,.int .i64 ss.bL,.int .i64 ss.fin,.bool td,bO ou])) mixed rfl (jM e1) ?_
 simp only[uK,aB,seval,sY]
 refine(a6B wt _ (by omega)).mono ?_
 rintro q1 s2 ⟨m2,hnz⟩
 obtain⟨f2,bs2,C2⟩:=C1.made m2
 replace C2:fT s [b5] [cE r,bO wt] [q0,q1] bs2 s2:=C2
 have e2:=(f2 b5 (by simp)).trans e1
 obtain⟨c1,t1',g1,w1,j1⟩:=C2.own.jO rfl q1 (by simp)
 simp only[aB,seval,sY]
 refine⟨jM e2,?_⟩
 refine(a6A ou _ (by omega)).mono ?_
 rintro q5 s3 m3
 obtain⟨f3,bs3,C3⟩:=C2.made m3
 replace C3:fT s [b5] [cE r,bO wt,bO ou] [q0,q1,q5] bs3 s3:=C3
 have e3:=(f3 b5 (by simp)).trans e2
 obtain⟨c5,t5,g5,w5,j5⟩:=C3.own.jO rfl q5 (by simp)
 simp only[aM,e3,c1,t1',c5,t5,dR,aA.aJ,aB,seval,sY]
 refine⟨jM e3,?_⟩
 have C3:=C3.aC (d:=b5) (by simp) (.cells [q0,.bool bk,q1,.slice (pr.map aG),.bool ac,.slice (ss.p.map aG),.slice (ss.q.map Tm.av),.int .i64 ss.bB,.int .i64 ss.used,.int .i64 ss.bL,.int .i64 ss.fin,.bool td,q5])
 have e3:(s3.aC b5 (.cells [q0,.bool bk,q1,.slice (pr.map aG),.bool ac,.slice (ss.p.map aG),.slice (ss.q.map Tm.av),.int .i64 ss.bB,.int .i64 ss.used,.int .i64 ss.bL,.int .i64 ss.fin,.bool td,q5])) b5=some (.cells [q0,.bool bk,q1,.slice (pr.map aG),.bool ac,.slice (ss.p.map aG),.slice (ss.q.map Tm.av),.int .i64 ss.bB,.int .i64 ss.used,.int .i64 ss.bL,.int .i64 ss.fin,.bool td,q5]):=aA.aJ _ _ _
 generalize s3.aC b5 (.cells [q0,.bool bk,q1,.slice (pr.map aG),.bool ac,.slice (ss.p.map aG),.slice (ss.q.map Tm.av),.int .i64 ss.bB,.int .i64 ss.used,.int .i64 ss.bL,.int .i64 ss.fin,.bool td,q5])=t3 at *
 refine wX [(0,1),(1,1),(3,1),(4,1),(2,0),(6,1),(5,0),(7,2),(8,2),(9,2)] [0,1,3,4,6] (one b5 (.cells [q0,.bool bk,q1,.slice (pr.map aG),.bool ac,.slice (ss.p.map aG),.slice (ss.q.map Tm.av),.int .i64 ss.bB,.int .i64 ss.used,.int .i64 ss.bL,.int .i64 ss.fin,.bool td,q5])) mixed rfl (jM e3) ?_
 simp only[uK,aB,seval,sY]
 refine(aMN pr _ k4 fun x hx s=>aMM x s (k5 x hx)).mono ?_
 rintro q2 s4 m4
 obtain⟨f4,bs4,C4⟩:=C3.made m4
 replace C4:fT s [b5] [cE r,bO wt,bO ou,.slice (pr.map aG)] [q0,q1,q5,q2] bs4 s4:=C4
 have e4:=(f4 b5 (by simp)).trans e3
 obtain⟨c2,t2,g2,w2,j2⟩:=C4.own.jO rfl q2 (by simp)
 simp only[aB,seval,sY]
 refine⟨jM e4,?_⟩
 refine(hse _).mono ?_
 rintro r5 s5 m5
 obtain⟨f5,qs,bs5,rfl,C5⟩:=C4.SO m5
 obtain⟨q3,q4,rfl⟩:=aL4 (qs:=qs) (by have:=C5.own.length;simpa [rE] using this)
 replace C5:fT s [b5] [cE r,bO wt,bO ou,.slice (pr.map aG),.slice (ss.p.map aG),.slice (ss.q.map Tm.av)] [q0,q1,q5,q2,q3,q4] bs5 s5:=C5
 have e5:=(f5 b5 (by simp)).trans e4
 obtain⟨c3,t3',g3,w3,j3⟩:=C5.own.jO rfl q3 (by simp)
 obtain⟨c4,t4,g4,w4,j4⟩:=C5.own.jO rfl q4 (by simp)
 simp only[uW,rE,dV,iE,cM]
 simp only[aM,e5,c2,t2,t3',t4,dR,aA.aJ,aB,seval,sY]
 refine⟨jM e5,?_⟩
 have C6:=C5.aC (d:=b5) (by simp) (.cells [q0,.bool bk,q1,q2,.bool ac,q3,q4,.int .i64 ss.bB,.int .i64 ss.used,.int .i64 ss.bL,.int .i64 ss.fin,.bool td,q5])
 have e6:(s5.aC b5 (.cells [q0,.bool bk,q1,q2,.bool ac,q3,q4,.int .i64 ss.bB,.int .i64 ss.used,.int .i64 ss.bL,.int .i64 ss.fin,.bool td,q5])) b5=some (.cells [q0,.bool bk,q1,q2,.bool ac,q3,q4,.int .i64 ss.bB,.int .i64 ss.used,.int .i64 ss.bL,.int .i64 ss.fin,.bool td,q5]):=aA.aJ _ _ _
 generalize s5.aC b5 (.cells [q0,.bool bk,q1,q2,.bool ac,q3,q4,.int .i64 ss.bB,.int .i64 ss.used,.int .i64 ss.bL,.int .i64 ss.fin,.bool td,q5])=s6 at *
 have ec:s6 c=some (.cells [bQ 13 b os,.int .i64 qu]):=(stay C6 c hbc).trans es
 have ebk:os≠[]→s6 b=some (.cells (os.flatMap AV.cells)):=fun hn=>by
  have h:=(hG.2.2.2.2.1 hn).2.2
  rw[stay C6 b (by rw[h];simp),h]
 obtain⟨bx,hbx,hO6⟩:=a64 C6.own
 have hlen:os.length=i:=hG.1
 have HI:∀e∈os,e.width=13:=fun e he=>by
  obtain⟨k,hk,rfl⟩:=OT he
  exact hG.2.1.OI (fun q hq=>AJ cs q (l9 hq)) _ he
 have hos:(AV.agg [q0,.bool bk,q1,q2,.bool ac,q3,q4,.int .i64 ss.bB,.int .i64 ss.used,.int .i64 ss.bL,.int .i64 ss.fin,.bool td,q5]).cells.all AV.storable=true:=by
  show List.all [q0,.bool bk,q1,q2,.bool ac,q3,q4,.int .i64 ss.bB,.int .i64 ss.used,.int .i64 ss.bL,.int .i64 ss.fin,.bool td,q5] AV.storable=true
  simp only[jK,B9,t0,t1',t2,t3',t4,t5,zQ,gM]
  rfl
 simp only[e6,ec,rZ,aB,seval,sY]
 refine PH (xs:=[.agg [q0,.bool bk,q1,q2,.bool ac,q3,q4,.int .i64 ss.bB,.int .i64 ss.used,.int .i64 ss.bL,.int .i64 ss.fin,.bool td,q5]]) qU QR Q1 rfl rfl (g8 rfl hos) HI ebk (by simp only[a8,bG,hlen];omega) (by simp only[a8,bG,hlen];omega) (fun b' s' n1 n2 n3 n4=>?_)
 have ec':s' c=some (.cells [bQ 13 b os,.int .i64 qu]):=by
  rw[n3 c (fun _ e=>?_) (fun hn e=>?_),ec]
  · rcases n2 (by simp) with ⟨h1,h2⟩ | h
    · have:=(hG.2.2.2.2.1 h2).1
      rw[←h1,←e,aA.aJ] at this;cases this
    · rw[←e,ec] at h;cases h
  · have:=(hG.2.2.2.2.1 hn).1
    rw[←e,aA.aJ] at this;cases this
 simp only[aM,ec',iK,nS,hw,aB,seval,sY]
 have rD:=hG.step h5 (o:=.cells [q0,.bool bk,q1,q2,.bool ac,q3,q4,.int .i64 ss.bB,.int .i64 ss.used,.int .i64 ss.bL,.int .i64 ss.fin,.bool td,q5]) hxe (hbx.nodup_iff.1 C6.nd) (fun q hq=>?_) (H1.2 ⟨q0,q1,q2,q3,q4,q5,rfl,hO6⟩) (fun q hq=>?_) (n1 (by simp)) (n2 (by simp)) (fun q h1 h2=>n3 q (fun _=>h1) h2) n4
 · have hT:=rD.FI (hSu _) (.cells [bQ 13 b' (os++ [.agg [q0,.bool bk,q1,q2,.bool ac,q3,q4,.int .i64 ss.bB,.int .i64 ss.used,.int .i64 ss.bL,.int .i64 ss.fin,.bool td,q5]]),.int .i64 qu])
   rw[dR] at hT
   refine⟨(os++ [.agg [q0,.bool bk,q1,q2,.bool ac,q3,q4,.int .i64 ss.bB,.int .i64 ss.used,.int .i64 ss.bL,.int .i64 ss.fin,.bool td,q5]],bs++bx,b',(s'.erase b5).aC c (.cells [bQ 13 b' (os++ [.agg [q0,.bool bk,q1,q2,.bool ac,q3,q4,.int .i64 ss.bB,.int .i64 ss.used,.int .i64 ss.bL,.int .i64 ss.fin,.bool td,q5]]),.int .i64 qu])),⟨hT,fun o ho=>?_⟩,aP.drop ?_ (by simp only[aB,seval])⟩
   · rcases eL.1 ho with ho | ho
     · exact hz o ho
     · simp only[cG,cX,dG] at ho
       subst ho
       exact hnz
   · intro y
     dsimp only
     by_cases e1:y=c
     · subst e1;simp only[aA.aJ];exact⟨fun h=>h,fun o h=>h⟩
     · rw[aA.aF _ _ e1,aA.aF _ _ e1];exact jD s' b5 y
 · have h1:=C6.fresh q (hbx.mem_iff.2 hq)
   have h2:q≠b5:=by rintro rfl;exact(C6.apart q (by simp)).2.1 (hbx.mem_iff.2 hq)
   rw[aA.aF _ _ h2];exact h1
 · by_cases h2:q=b5
   · subst h2;rw[aA.aJ];exact e6
   · rw[aA.aF _ _ h2];exact C6.aU q (fun h=>hq (hbx.mem_iff.1 h)) (by simpa using h2)
theorem aMO(s:Sv)(h1:s.cs.length≤1048576)(h2:∀c∈s.cs,GX c)(st:aA):aD prog 20 [fJ s] st (Made st (fJ s)):=by
 refine(YX s h1 h2 st).mono ?_
 rintro r st' ⟨os,bs,b,rfl,hG,-⟩
 obtain⟨bs',m1,m2,m3,m4⟩:=hG.done (aE _) (AJ _)
 exact⟨bs',m1,m2,H2.2 ⟨_,rfl,m3⟩,m4⟩
theorem a1V{st:aA}{l:List Fr}:∀a∈l.map bJ,∀o bs,aS st a o bs→o=a∧bs= []:=fun a ha o bs h=>by
 simp only[cF] at ha
 obtain⟨f,_,rfl⟩:=ha
 obtain⟨qs,rfl,hq⟩:=sT.1 h
 obtain⟨rfl,rfl⟩:qs= []∧bs= []:=hq
 exact⟨rfl,rfl⟩
def SvW(st:aA)(s:Sv)(n:Nat)(x:eF)(r:AV)(s2:aA):Prop:=
 ∃b q1,r=.agg [.mslice b 0 s.cs.length 13,.int .i64 s.bB]∧st b=none∧(∀y∈bU q1,st y=none∧y≠b)∧dY s2 2 q1 (x.wait.map bJ) ∧
  s2 b=some (.cells (((s.cs.map bP).take n).flatMap AV.cells++ [cE x.rest,.bool x.brk,q1,.slice (x.prog.map aG),.bool x.act,.slice (x.ses.p.map aG),.slice (x.ses.q.map Tm.av),.int .i64 x.ses.bB,.int .i64 x.ses.used,.int .i64 x.ses.bL,.int .i64 x.ses.fin,.bool x.told,bO x.out]++((s.cs.map bP).drop (n+1)).flatMap AV.cells)) ∧
  ∀y,y≠b→y∉bU q1→s2 y=st y
theorem aV5(s:Sv)(h1:s.cs.length≤1048576)(h2:∀c∈s.cs,GX c)(n:Nat)(x:eF)(hx:s.cs[n]?=some x)(st:aA):aD prog 20 [fJ s] st (SvW st s n x):=by
 refine(YX s h1 h2 st).lN ?_
 rintro r st' ⟨os,bs,b,rfl,⟨g1,g2,g3,g4,g5,g6⟩,hz⟩
 have hn:n<s.cs.length:=(fC.1 hx).1
 have hxe:(s.cs.map bP)[n]'(by rw[aE];exact hn)=bP x:=by rw[List.getElem_map,(fC.1 hx).2]
 rw[m9 (by rw[aE];exact cZ _)] at g2
 have hsp:s.cs.map bP=(s.cs.map bP).take n++bP x::(s.cs.map bP).drop (n+1):=by
  rw[←hxe,←oM,oO]
 rw[hsp] at g2
 obtain⟨o1,o2,b1,b23,rfl,rfl,x1,x2⟩:=g2.split
 simp only[aV] at x2
 obtain⟨oe,orr,bo,b3,rfl,rfl,xe,x3⟩:=x2
 obtain⟨q0,q1,q2,q3,q4,q5,rfl,xp⟩:=H1.1 xe
 have hnz:∀b w,q1≠.mslice b 0 0 w:=hz _ (List.mem_append_right _ (l8 ..))
 have hlen:(o1++AV.agg [q0,.bool x.brk,q1,q2,.bool x.act,q3,q4,.int .i64 x.ses.bB,.int .i64 x.ses.used,.int .i64 x.ses.bL,.int .i64 x.ses.fin,.bool x.told,q5]::orr).length=s.cs.length:=g1
 have hne:o1++AV.agg [q0,.bool x.brk,q1,q2,.bool x.act,q3,q4,.int .i64 x.ses.bB,.int .i64 x.ses.used,.int .i64 x.ses.bL,.int .i64 x.ses.fin,.bool x.told,q5]::orr≠[]:=by simp
 obtain⟨k1,k2,k3⟩:=g5 hne
 rw[r7 hne,hlen]
 simp only[QJ,aV] at xp
 obtain⟨_,_,p0,_,e,rfl,y0,_,_,p1,_,rfl,rfl,y1,_,_,p2,_,rfl,rfl,y2,_,_,p3,_,rfl,rfl,y3,_,_,p4,_,rfl,rfl,y4,_,_,p5,_,rfl,rfl,y5,rfl,rfl⟩:=xp
 simp only[List.cons.injEq,dE] at e
 obtain⟨rfl,rfl,rfl,rfl,rfl,rfl⟩:=e
 obtain⟨hA,hB1,hB2⟩:=y1.a9X a1V (oW _) hnz
 simp only[eU] at *
 have fZ:∀y,y∈b1∨y∈p0∨y∈p1∨y∈p2∨y∈p3∨y∈p4∨y∈p5∨y∈b3→y∈b1++((p0++(p1++(p2++(p3++(p4++p5)))))++b3):=fun y h=>by
  simp only[eL]
  rcases h with h | h | h | h | h | h | h | h<;>simp [h]
 have kS:∀y∈p1,y∉b1∧y∉p0∧y∉p2∧y∉p3∧y∉p4∧y∉p5∧y∉b3:=fun y hy=>by
  simp only[mA,eL] at g3
  refine⟨fun h=>?_,fun h=>?_,fun h=>?_,fun h=>?_,fun h=>?_,fun h=>?_,fun h=>?_⟩
  · exact g3.2.2 y h y (by simp [hy]) rfl
  · exact g3.2.1.1.2.2 y h y (by simp [hy]) rfl
  · exact g3.2.1.1.2.1.2.2 y hy y (by simp [h]) rfl
  · exact g3.2.1.1.2.1.2.2 y hy y (by simp [h]) rfl
  · exact g3.2.1.1.2.1.2.2 y hy y (by simp [h]) rfl
  · exact g3.2.1.1.2.1.2.2 y hy y (by simp [h]) rfl
  · exact g3.2.1.2.2 y (by simp [hy]) y h rfl
 generalize hC:((s.cs.map bP).take n).flatMap AV.cells++ [cE x.rest,.bool x.brk,q1,.slice (x.prog.map aG),.bool x.act,.slice (x.ses.p.map aG),.slice (x.ses.q.map Tm.av),.int .i64 x.ses.bB,.int .i64 x.ses.used,.int .i64 x.ses.bL,.int .i64 x.ses.fin,.bool x.told,bO x.out]++((s.cs.map bP).drop (n+1)).flatMap AV.cells=C
 obtain⟨S2,hS2⟩:∃S2:aA,∀y,S2 y=if y=b then some (AO.cells C) else if y∈bU q1 then st' y else st y:=⟨_,fun _=>rfl⟩
 have hk:∀y,y≠b→S2 y=none∨S2 y=st' y:=fun y hy=>by
  rw[hS2 y,aK hy]
  by_cases h:y∈bU q1
  · rw[aN h];exact .inr rfl
  · rw[aK h]
    by_cases h':y∈b1++((p0++(p1++(p2++(p3++(p4++p5)))))++b3)
    · exact .inl (g4 y h')
    · exact .inr (g6 y h' fun _=>hy).symm
 have hfr:∀y,(y∈b1∨y∈p0∨y∈p2∨y∈p3∨y∈p4∨y∈p5∨y∈b3)→S2 y=none:=fun y h=>by
  have hm:y∈b1++((p0++(p1++(p2++(p3++(p4++p5)))))++b3):=fZ y (by rcases h with h | h | h | h | h | h | h<;>simp [h])
  have h1:y≠b:=fun e=>k2 (e▸hm)
  have h2:y∉bU q1:=fun hq=>by
   obtain⟨d1,d2,d3,d4,d5,d6,d7⟩:=kS y (hB1 y hq)
   rcases h with h | h | h | h | h | h | h
   · exact d1 h
   · exact d2 h
   · exact d3 h
   · exact d4 h
   · exact d5 h
   · exact d6 h
   · exact d7 h
  rw[hS2 y,aK h1,aK h2]
  exact g4 y hm
 have T:∀h,bT h st' h S2:=fun h=>bT.tell k3 hk
 have a3U:q1.bV=false:=hA.shape.2.2.1
 have S:∀ {a:AV},a.bV=false→Told st' S2 a a:=fun h=>Told.same T h
 refine⟨_,S2,?_,fun h v _ y=>y.mono (T h),b,q1,rfl,k1,fun y hy=>?_,hA.aU fun y hy=>?_,?_,fun y h1 h2=>?_⟩
 · refine F0.tell k3 ?_ ((hS2 b).trans (aN rfl)) hk
   rw[←hC,vZ,rU,←kC]
   refine dT.append (dT.append (dT.flat x1 fun y hy=>hfr y (by simp [hy])) ?_) (dT.flat x3 fun y hy=>hfr y (by simp [hy]))
   exact .cons (Told.own y0 fun y hy=>hfr y (by simp [hy])) (.cons (S rfl) (.cons (S a3U) (.cons (Told.own y2 fun y hy=>hfr y (by simp [hy])) (.cons (S rfl) (.cons (Told.own y3 fun y hy=>hfr y (by simp [hy])) (.cons (Told.own y4 fun y hy=>hfr y (by simp [hy])) (.cons (S rfl) (.cons (S rfl) (.cons (S rfl) (.cons (S rfl) (.cons (S rfl) (.cons (Told.own y5 fun y hy=>hfr y (by simp [hy])) .nil))))))))))))
 · have hm:=fZ y (by simp [hB1 y hy])
   exact⟨g4 y hm,fun e=>k2 (e▸hm)⟩
 · have hm:=fZ y (by simp [hB1 y hy])
   have h1:y≠b:=fun e=>k2 (e▸hm)
   rw[hS2 y,aK h1,aN hy]
 · rw[hC]
   exact(hS2 b).trans (aN rfl)
 · rw[hS2 y,aK h1,aK h2]
theorem aOH{b:List Bt}(h:iU b= -1):hH b=([],[],true):=by
 unfold hH
 rw[dif_neg (by omega),aK (by omega)]
theorem aOI{b:List Bt}(h:iU b=0):hH b=([],b,false):=by
 unfold hH
 rw[dif_neg (by omega),aN h]
theorem a8T{b:List Bt}(h:0<iU b):hH b=(nF b::(hH (b.drop (2+eO b))).1,(hH (b.drop (2+eO b))).2):=by
 conv=>lhs;unfold hH
 rw[dif_pos h]
abbrev pF:=zi aX (zi cB (zi tB (zi d9 (zi iQ (zi oE (zi lM (zi dD (zi pI aPX))))))))
set_option maxHeartbeats 2000000 in
theorem aUT(r:List Bt)(k:Bool)(x:List Bt)(st:aA)(hr:r.length+x.length≤4000000):aD prog 23 [gS r k,cE x] st (fun v st'=>oL (jE r k x) v∧st'=st):=by
 have hv:=fun s=>XY r k s (by omega)
 have hcl:=fun s=>PS r s (by omega)
 have hcc:=fun s=>aTG [r.map bX,x.map bX] (by intro l hl;simp only[cG,cX,dG] at hl;rcases hl with rfl | rfl<;>exact wI _) (by intro e he;simp only[JD,List.flatten_nil,eU,eL] at he;rcases he with he | he<;>exact yF _ e he) (by simp only[JD,List.flatten_nil,eU,dS,aE];omega) (by simp) s
 rw[show([r.map bX,x.map bX]:List (List AV)).flatten=(r++x).map bX by simp] at hcc
 unfold gS at hv ⊢
 refine aD.drop (Q:=oL _) (aD.fin ?_)
 refine wF [1000000,4,9] 2 func23 ntmps23 rfl rfl ?_
 intro _
 simp only[aB,seval,pF]
 intro b4 h4
 refine(hv _).to ?_
 have hno:pU r k=false∨k=true→jE r k x=((r,k),[]):=fun h=>by unfold jE;rw[aN h]
 have yU:pU r k=true→k=false→jE r k x=(((hH (r++x)).2.1,(hH (r++x)).2.2),(hH (r++x)).1):=fun h h'=>by unfold jE;rw[aK (by rintro(e | e)<;>first | (rw[h] at e;cases e) | (rw[h'] at e;cases e))]
 generalize pU r k=d at *
 generalize jE r k x=T at *
 simp only[aB,seval]
 cases d with
 | false=>
  cases hno (.inl rfl)
  simp only[kO,aB,seval]
  have e3:∀o o':AO,(aA.aC st b4 o).aC b4 o'=aA.aC st b4 o':=fun _ _=>dR ..
  refine wX [(0,1),(1,1),(3,1),(4,1),(2,0),(5,1),(6,0),(7,1)] [0,1,3,4,5,7] dJ mixed rfl dF ?_
  simp only[aB,seval,pF]
  refine(hcl _).to ?_
  simp only[aM,aA.aJ,dR,aB,seval,pF]
  exact⟨dF,dF,0,[],_,rfl,by simp,by simp,⟨1,by simp⟩,(aO.refl _).aC h4,by simp only[oL,gS,gJ,iM,lV,iC,nE,bR,bS];rfl⟩
 | true=>
  cases k with
  | true=>
   cases hno (.inr rfl)
   simp only[fG,aB,seval,pF]
   have e3:∀o o':AO,(aA.aC st b4 o).aC b4 o'=aA.aC st b4 o':=fun _ _=>dR ..
   refine wX [(0,1),(1,1),(3,1),(4,1),(2,0),(5,1),(6,0),(7,1)] [0,1,3,4,5,7] dJ mixed rfl dF ?_
   simp only[aB,seval,pF]
   refine(hcl _).to ?_
   simp only[aM,aA.aJ,dR,aB,seval,pF]
   exact⟨dF,dF,0,[],_,rfl,by simp,by simp,⟨1,by simp⟩,(aO.refl _).aC h4,by simp only[oL,gS,gJ,iM,lV,iC,nE,bR,bS];rfl⟩
  | false=>
   have hy:=yU rfl rfl
   simp only[fG,aB,seval,pF]
   refine(hcc _).to ?_
   simp only[aB,seval]
   have hlen:(r++x).length≤4000000:=by rw[dS];exact hr
   generalize r++x=b0 at *
   have hS:∀o:AO,(aA.aC st b4 o) b4=some o:=fun o=>aA.aJ _ _ _
   have hDS:∀o:AO,aO (aA.aC st b4 o) st:=fun o=>(aO.refl st).aC h4
   refine oI (σ:=List Bt×List Fr×Nat×aA) [1000000,4,9] [4] (fun y=>(y.2.1++(hH y.1).1,(hH y.1).2)=hH b0∧y.2.1.length+y.1.length≤4000000∧aO y.2.2.2 (aA.aC st b4 (.cells [.fslice [],.bool false]))∧(y.2.1.map bJ≠[]→y.2.2.2 y.2.2.1=none)) (fun y=>[(5,.fslice []),(6,cE y.1),(7,bQ 2 y.2.2.1 (y.2.1.map bJ))]) (fun y=>bK y.2.2.2 y.2.2.1 (y.2.1.map bJ)) (fun y=>y.1.length) (by decide +kernel) ⟨(b0,[],0,aA.aC st b4 (.cells [.fslice [],.bool false])),⟨by rw[eE],by simp only[bG];omega,aO.refl _,by simp⟩,aP.mk (by simp only[bS,lT,aB,seval])⟩ ?_
   rintro⟨b,acc,p,s0⟩ ⟨i1,i2,i3,i4⟩
   simp only at i1 i2 i3 i4 ⊢
   have hlo:=YS b (bK s0 p (acc.map bJ))
   have hwi:=sD (lI b) 1 2001
   have hlt:lI b<65536∧-1≤lI b:=by
    have:=aL3 b
    by_cases h:b.length<2
    · rw[HQ h];omega
    · rw[HP h];omega
   have hw:=aZ (n:=lI b+2)
   have F:∀s1:aA,aO s1 (aA.aC st b4 (.cells [.fslice [],.bool false]))→(acc.map bJ≠[]→s1 p=none)→(bK s1 p (acc.map bJ)) b4=some (.cells [.fslice [],.bool false])∧(∀o:AO,(bK s1 p (acc.map bJ)).aC b4 o=bK (s1.aC b4 o) p (acc.map bJ))∧(∀o:AO,(bK (s1.aC b4 o) p (acc.map bJ)) b4=some o)∧(∀o:AO,acc.map bJ≠[]→(s1.aC b4 o) p=none)∧(∀o:AO,aO (s1.aC b4 o) st):=fun s1 j3 j4=>by
    have hs4:=(j3 b4).2 _ (hS _)
    have hp4:acc.map bJ≠[]→b4≠p:=fun h e=>by have:=j4 h;rw[←e,hs4] at this;cases this
    exact⟨by rw[AB hp4];exact hs4,fun o=>nR hp4,fun o=>by rw[AB hp4,aA.aJ],fun o h=>by rw[aA.aF _ _ (dA (hp4 h))];exact j4 h,fun o=>(j3.trans (hDS _)).aC h4⟩
   obtain⟨e4,u4,v4,f4,D4⟩:=F s0 i3 i4
   have hz:=aMI (b:=b)
   have hng:=a56 (b:=b)
   generalize hL:lI b=L at *
   simp only[aB,seval]
   refine hlo.to ?_
   simp only[aB,seval]
   by_cases h0:L<0
   case pos=>
    have g0:=gO (show ¬(0≤L) by omega)
    have g1:=kI h0
    simp only[g0,g1,dW,dU,aB,seval]
    have hn:iU b=0:=hz.2 (.inl h0)
    rw[aOI hn] at i1
    simp only[eU] at i1
    refine(PS b _ (by omega)).to ?_
    simp only[aM,e4,u4,v4,mC,aB,seval,pF]
    exact⟨p,_,_,rfl,f4 _,sN _,⟨2,oW _⟩,D4 _,by rw[hy,←i1];simp only[oL,gS,gJ,iM,lV,iC,lF,bR,bS]⟩
   have g0:=kI (show 0≤L by omega)
   have g1:=gO h0
   by_cases h2:1≤L∧L≤2001
   case neg=>
    have hb:(decide (1≤L)&&decide (L≤2001))=false:=by
     cases hx:(decide (1≤L)&&decide (L≤2001)) with
     | false=>rfl
     | true=>simp only[cY,bM] at hx;exact absurd hx h2
    rw[hb] at hwi
    obtain⟨q1,q2⟩:=hng.1 ⟨by omega,h2⟩
    rw[aOH (BH q1 q2)] at i1
    simp only[eU] at i1
    simp only[g0,dU,aB,seval]
    refine(hwi _).to ?_
    simp only[kO,aM,e4,u4,v4,mC,aB,seval,pF]
    exact⟨p,_,_,rfl,f4 _,sN _,⟨2,oW _⟩,D4 _,by rw[hy,←i1];simp only[oL,gS,gJ,iM,lV,nE,lF,bR,bS];rfl⟩
   have hb:(decide (1≤L)&&decide (L≤2001))=true:=by simp only[cY,bM];exact h2
   rw[hb] at hwi
   simp only[g0,dU,aB,seval]
   refine(hwi _).to ?_
   simp only[fG,g1,dW,aE,hw,aB,seval,pF]
   by_cases h3:(b.length:Int)<L+2
   case pos=>
    have g3:=kI h3
    simp only[g3,dU,aB,seval]
    have hn:iU b=0:=hz.2 (.inr ⟨h2,h3⟩)
    rw[aOI hn] at i1
    simp only[eU] at i1
    refine(PS b _ (by omega)).to ?_
    simp only[aM,e4,u4,v4,mC,aB,seval,pF]
    exact⟨p,_,_,rfl,f4 _,sN _,⟨2,oW _⟩,D4 _,by rw[hy,←i1];simp only[oL,gS,gJ,iM,lV,iC,lF,bR,bS]⟩
   have g3:=gO h3
   simp only[g3,dW,aB,seval]
   have hge:¬b.length<2:=fun h=>by rw[HQ h] at hL;omega
   have hLF:L=(eO b:Int):=by rw[←hL,HP hge]
   have hN:=L8 hge (by omega) (by omega)
   have hw':IntKind.i64.wrap (L+2)=((2+eO b:Nat):Int):=by rw[hw];omega
   obtain⟨z,hz2⟩:∃z,b[2]?=some z:=⟨_,eK (by omega)⟩
   have RJ:dP prog 25 (.slice (b.map bX)) (.int .i64 2)=some (.pptr (bX z)):=bH (av:=bX) (i:=2) jC hz2 rfl
   have hff:nF b=((z.val:Int),CY ((b.take (2+eO b)).drop 3)):=by unfold nF;rw[hz2];try rfl
   have hfv:=fun st=>XZ (nF b) st
   rw[hff] at hfv hN
   simp only[bJ] at hfv
   have hsl:=fun φ h1 h2=>aN1 (φ:=φ) (x:=.const (.int .i64 3)) (y:=.tmp 58) (l:=b) (k:=3) (m:=2+eO b) h1 h2 (by omega) (by omega)
   have hcv:=ZU ((b.take (2+eO b)).drop 3)
   have a33:=fun φ h=>aN2 (φ:=φ) (x:=.tmp 73) (l:=b) (k:=2+eO b) h (by omega)
   refine wX [(0,1),(1,1),(2,1),(3,1),(4,1),(5,1),(6,1),(7,1),(8,1),(9,1),(10,0),(11,2)] [0,1,2,3,4,5,6,7,8,9] dJ mixed rfl dF ?_
   simp only[RJ,ZV,bX,hw',aB,seval,pF]
   rw[hsl _ (by rfl) (by simp only[aB,seval])]
   simp only[aM,hcv,dR,aB,seval,pF]
   intro b9 hb9
   refine⟨dF,?_⟩
   generalize hG:CY ((b.take (2+eO b)).drop 3)=s at *
   obtain⟨h5,h6⟩:=CS hb9
   have hW:∀o:AO,(bK s0 p (acc.map bJ)).aC b9 o=bK (s0.aC b9 o) p (acc.map bJ):=fun o=>nR h6
   have j3:∀o:AO,aO (s0.aC b9 o) (aA.aC st b4 (.cells [.fslice [],.bool false])):=fun o=>i3.aC ((i3 b9).1 h5)
   have j4:∀o:AO,acc.map bJ≠[]→(s0.aC b9 o) p=none:=fun o h=>by rw[aA.aF _ _ (dA (h6 h))];exact i4 h
   have j9:∀o:AO,(bK (s0.aC b9 o) p (acc.map bJ)) b9=some o:=fun o=>by rw[AB h6,aA.aJ]
   have j3:=j3 (.cells [.int .i64 (z.val:Int),.str s])
   have j4:=j4 (.cells [.int .i64 (z.val:Int),.str s])
   have j9:=j9 (.cells [.int .i64 (z.val:Int),.str s])
   rw[hW]
   obtain⟨E4,U4,V4,F4,X4⟩:=F _ j3 j4
   generalize s0.aC b9 (.cells [.int .i64 (z.val:Int),.str s])=s1 at *
   refine(hfv _).to ?_
   cases hfo:mT ((z.val:Int),s) with
   | false=>
    rw[hfo,aK (by simp)] at hN
    rw[aOH hN] at i1
    simp only[eU] at i1
    simp only[kO,aM,mC,E4,U4,V4,aB,seval,pF]
    exact⟨p,_,_,rfl,F4 _,sN _,⟨2,oW _⟩,X4 _,by rw[hy,←i1];simp only[oL,gS,gJ,iM,lV,nE,lF,bR,bS];rfl⟩
   | true=>
    rw[hfo,aN rfl] at hN
    rw[a8T (by omega),hff] at i1
    simp only at i1
    simp only[fG,j9,aB,seval,pF]
    refine gA mS tW tY rfl rfl (g8 rfl rfl) (oW _) j4 (by simp only[aE,a8,bG];omega) (by simp only[aE,a8,bG];omega) (fun p' hp'=>?_)
    rw[show acc.map bJ++ [.agg [.int .i64 (z.val:Int),.str s]]=(acc++ [((z.val:Int),s)]).map bJ by simp [bJ]] at hp' ⊢
    simp only[hw',aB,seval]
    rw[a33 _ (by simp only[aB,seval])]
    simp only[aB,seval]
    refine⟨(b.drop (2+eO b),acc++ [((z.val:Int),s)],p',s1),by simp only[lP];omega,⟨?_,?_,j3,hp'⟩,aP.mk (by simp only[aB,seval]<;>rfl)⟩
    · rw[←i1];simp
    · simp only[dS,a8,bG,lP];omega
abbrev rN:=zi aX (zi cB (zi iQ (zi oD (zi tA (zi oE (zi lM (zi oG dD)))))))
set_option maxHeartbeats 1000000 in
theorem a6E(s:Sv)(k:Int)(x:List Bt)(st:aA)(hb:pD s.cs≤1048576)(hx:x.length≤1048576):aD prog 8 [fJ s,.int .i64 k,cE x] st (Made st (fJ (wS s k x))):=by
 obtain⟨LQ,LR⟩:=aXI hb
 have how:=fun st=>aMO s LQ LR st
 have hww:=fun n c hc st=>aV5 s LQ LR n c hc st
 have hft:=fun st=>aWI s st (fun c hc=>by have:=(LR c hc).1;have:=AI hc;unfold fH at this;omega)
 have hwi:=fun st=>sD k 0 ((s.cs.length:Int) - 1) st
 have hlen:s.cs.length≤1048576:=LQ
 have hno:=fun h=>aJ7 (s:=s) (k:=k) (x:=x) h
 have yU:=fun n c hc h=>aJ8 (s:=s) (k:=n) (x:=x) (c:=c) hc h
 have fM:=fun n c hc st=>aMO { s with cs:=s.cs.set n (t6 c x) } (by simp only[List.length_set];exact LQ) (fun c' hc'=>by
  rcases List.mem_or_eq_of_mem_set hc' with h | h
  · exact LR c' h
  · rw[h];exact aXH (nN (AI (cH (i:=n) hc)) hb) hx) st
 have hwn:(decide (0≤k)&&decide (k≤(s.cs.length:Int) - 1))=(decide (0≤k)&&decide (k<(s.cs.length:Int))):=by
  congr 1
  rw[wN];omega
 rw[hwn] at hwi
 have hw:=aZ (n:=(s.cs.length:Int) - 1)
 by_cases hgo:(decide (0≤k)&&decide (k<(s.cs.length:Int)))=true∧vT s=true
 case neg=>
  rw[hno hgo]
  refine aD.uH ?_
  obtain⟨cs,qu⟩:=s
  simp only[fJ] at *
  refine wF [1000000,7] 3 func8 ntmps8 rfl rfl ?_
  intro _
  simp only[aB,seval,rN]
  intro b6 h6
  refine(how _).mono ?_
  rintro r s1 m1
  obtain⟨bs,n1,f1,O1,k1⟩:=m1
  replace O1:aS s1 (fJ ⟨cs,qu⟩) r bs:=O1
  have O1':=O1
  obtain⟨q,rfl,hq⟩:=H2.1 O1
  obtain⟨hqc,hqs,hqa,hqw,hqj⟩:=aS.sS hq
  have hb6:b6∉bs:=fun h=>by have:=f1 b6 h;rw[aA.aJ] at this;cases this
  have e6:s1 b6=some (.cells [.fslice [],.int .i64 0]):=(k1 b6 hb6).trans (aA.aJ _ _ _)
  simp only[aM,hqs,aB,↓aW,seval,rN]
  intro b7 h7
  have n76:b6≠b7:=by rintro rfl;rw[e6] at h7;cases h7
  have e7:(s1.aC b7 (.cells [q,.int .i64 qu])) b7=some (.cells [q,.int .i64 qu]):=aA.aJ _ _ _
  have e6':=(aA.aF s1 (.cells [q,.int .i64 qu]) n76).trans e6
  have rA:∃ds,JI st ds (.agg [.slice (cs.map bP),.int .i64 qu]) (.agg [q,.int .i64 qu]) ((s1.aC b7 (.cells [q,.int .i64 qu])).aC b6 (.cells [q,.int .i64 qu])):=by
   have h7b:b7∉bs:=fun h=>by obtain⟨cs',e,_⟩:=(aS.gK _ _ _ O1').2.2 b7 h;rw[h7] at e;cases e
   have hst:∀y∈bs,st y=none:=fun y hy=>by
    have:=f1 y hy
    have hne:y≠b6:=fun e=>hb6 (e▸hy)
    rwa [aA.aF _ _ hne] at this
   have h7n:st b7=none:=by
    have:=k1 b7 h7b
    rw[h7,aA.aF _ _ n76.symm] at this
    exact this.symm
   refine⟨[b6,b7],bs,n1,hst,fun d hd=>?_,aS.aU _ _ _ (fun y hy=>?_) O1',fun y hy hd=>?_⟩
   · simp only[cG,cX,dG] at hd
     rcases hd with rfl | rfl
     · exact⟨h6,hb6⟩
     · exact⟨h7n,h7b⟩
   · rw[aA.aF _ _ (fun e:y=b6=>hb6 (e▸hy)),aA.aF _ _ (fun e:y=b7=>h7b (e▸hy))]
   · simp only[cG,cX,dG,jI] at hd
     rw[aA.aF _ _ hd.1,aA.aF _ _ hd.2,k1 y hy,aA.aF _ _ hd.1]
  generalize s1.aC b7 (.cells [q,.int .i64 qu])=s2 at *
  refine(hft _).to ?_
  cases hok:vT ⟨cs,qu⟩ with
  | false=>
   simp only[kO,aM,e6',e7,hqs,aB,seval,rN]
   exact rA
  | true=>
   simp only[fG,aE,hw,aB,seval,rN]
   refine(hwi _).to ?_
   cases hI:(decide (0≤k)&&decide (k<(cs.length:Int))) with
   | false=>
    simp only[kO,aM,e6',e7,hqs,aB,seval,rN]
    exact rA
   | true=>exact absurd ⟨hI,hok⟩ hgo
 obtain⟨hI,hok⟩:=hgo
 simp only[cY,bM] at hI
 obtain⟨n,rfl⟩:∃n:Nat,k=n:=⟨k.toNat,by omega⟩
 obtain⟨c,hc⟩:∃c,s.cs[n]?=some c:=⟨_,eK (by omega)⟩
 have hI':(decide ((0:Int)≤(n:Int))&&decide ((n:Int)<(s.cs.length:Int)))=true:=by simp;omega
 rw[hI'] at hwi
 rw[hok] at hft
 rw[yU n c hc hok]
 replace fM:=fM n c hc
 replace hww:=hww n c hc
 have hcz:fH c≤1048576:=nN (AI (cH hc)) hb
 refine aD.oT ?_
 obtain⟨cs,qu⟩:=s
 simp only[fJ] at *
 refine wF [1000000,7] 3 func8 ntmps8 rfl rfl ?_
 intro _
 simp only[aB,seval,rN]
 intro b6 h6
 refine(hww _).mono ?_
 rintro _ s1 ⟨b,q1,rfl,w1,w2,A1,eb,w3⟩
 simp only at eb
 have nb6:b≠b6:=by rintro rfl;rw[aA.aJ] at w1;cases w1
 have nq6:b6∉bU q1:=fun h=>by have:=(w2 b6 h).1;rw[aA.aJ] at this;cases this
 have e6:s1 b6=some (.cells [.fslice [],.int .i64 0]):=(w3 b6 nb6.symm nq6).trans (aA.aJ _ _ _)
 have BC:st b=none:=by rwa [aA.aF _ _ nb6] at w1
 have C1:fW st s1 [b6,b] [(2,q1,c.wait.map bJ)]:=by
  refine⟨fun p hp=>?_,by simp,fun p hp y hy=>?_,fun d hd=>?_,fun y o h=>?_⟩
  · simp only[cG,cX,dG] at hp;subst hp;exact A1
  · simp only[cG,cX,dG] at hp
    subst hp
    obtain⟨h1,h2⟩:=w2 y hy
    have h3:y≠b6:=fun e=>nq6 (e▸hy)
    rw[aA.aF _ _ h3] at h1
    exact⟨h1,by simp [h2,h3]⟩
  · simp only[cG,cX,dG] at hd
    rcases hd with rfl | rfl
    · exact⟨h6,by rw[e6];simp⟩
    · exact⟨BC,by rw[eb];simp⟩
  · have h1:y≠b6:=by rintro rfl;rw[h6] at h;cases h
    have h2:y≠b:=by rintro rfl;rw[BC] at h;cases h
    have h3:y∉bU q1:=fun hq=>by
     have:=(w2 y hq).1
     rw[aA.aF _ _ h1,h] at this;cases this
    rw[w3 y h2 h3,aA.aF _ _ h1];exact h
 simp only[aM,aB,↓aW,seval,rN]
 intro b7 h7
 have C2:=C1.more h7 (.cells [.mslice b 0 cs.length 13,.int .i64 qu])
 have n76:b6≠b7:=by rintro rfl;rw[e6] at h7;cases h7
 have nb7:b≠b7:=by rintro rfl;rw[eb] at h7;cases h7
 have e7:(s1.aC b7 (.cells [.mslice b 0 cs.length 13,.int .i64 qu])) b7=some (.cells [.mslice b 0 cs.length 13,.int .i64 qu]):=aA.aJ _ _ _
 have e6':=(aA.aF s1 (.cells [.mslice b 0 cs.length 13,.int .i64 qu]) n76).trans e6
 have eb':=(aA.aF s1 (.cells [.mslice b 0 cs.length 13,.int .i64 qu]) nb7).trans eb
 generalize s1.aC b7 (.cells [.mslice b 0 cs.length 13,.int .i64 qu])=s2 at *
 refine(hft _).to ?_
 simp only[fG,aE,hw,aB,seval,rN]
 refine(hwi _).to ?_
 have hat:=kT (P:=prog) (b:=b) (len:=cs.length) (w:=13) (i:=n) qU (by omega)
 have hA:(((cs.map bP).take n).flatMap AV.cells).length=n*13:=by
  rw[mD (n:=13) (fun e he=>AJ cs e (l9 he)),dZ,aE,kQ (by omega)]
 have hfb:=KZ c.rest c.brk x
 have hfd:=fun st=>aUT c.rest c.brk x st (by have h:c.rest.length≤fH c:=(by unfold fH;omega);omega)
 have hfc:t6 c x= { c with rest:=(jE c.rest c.brk x).1.1,brk:=(jE c.rest c.brk x).1.2,wait:=c.wait++(jE c.rest c.brk x).2 }:=rfl
 rw[hfc] at fM ⊢
 have hwl:c.wait.length≤1048576:=by unfold fH sW at hcz;omega
 have hrl:c.rest.length≤1048576:=by unfold fH at hcz;omega
 generalize jE c.rest c.brk x=T at *
 obtain⟨⟨r',bk'⟩,l'⟩:=T
 simp only[oL] at hfd hfb fM ⊢
 have mV:∀y:eF,(cs.set n y).map bP=(cs.map bP).take n++bP y::(cs.map bP).drop (n+1):=fun y=>by
  rw[List.map_set,OW,aN (by rw[aE];omega)]
 have jA:∀e∈(cs.map bP).take n,e.bV=false:=fun e he=>GY cs e (l9 he)
 have jB:∀e∈(cs.map bP).drop (n+1),e.bV=false:=fun e he=>GY cs e (OV he)
 have HH:∀y:eF,((cs.set n y).map bP).length=cs.length:=fun y=>by rw[aE,List.length_set]
 obtain⟨r,bk,wt,pr,ac,ss,td,ou⟩:=c
 simp only[gS] at hfd hfb hwl hrl mV HH fM C2 A1 eb' ⊢
 have hAB:∀C':List AV,(((cs.map bP).take n)++ .agg C'::((cs.map bP).drop (n+1))).flatMap AV.cells=((cs.map bP).take n).flatMap AV.cells++C'++((cs.map bP).drop (n+1)).flatMap AV.cells:=fun C'=>by simp [AV.cells]
 generalize hLA:((cs.map bP).take n).flatMap AV.cells=A at *
 generalize hLB:((cs.map bP).drop (n+1)).flatMap AV.cells=B at *
 have p2:n*13+2≤(A++ [cE r,.bool bk,q1,.slice (pr.map aG),.bool ac,.slice (ss.p.map aG),.slice (ss.q.map Tm.av),.int .i64 ss.bB,.int .i64 ss.used,.int .i64 ss.bL,.int .i64 ss.fin,.bool td,bO ou]++B).length:=by simp only[dS,a8,bG];omega
 have p4:((A++ [cE r,.bool bk,q1,.slice (pr.map aG),.bool ac,.slice (ss.p.map aG),.slice (ss.q.map Tm.av),.int .i64 ss.bB,.int .i64 ss.used,.int .i64 ss.bL,.int .i64 ss.fin,.bool td,bO ou]++B).drop (n*13)).take 2= [cE r,.bool bk]:=by rw[kC,List.drop_left' hA];try rfl
 obtain⟨m1,m2,m3,m4,m5,m6⟩:=vN (B:=B) hA
 have p5:aM (A++ [cE r,.bool bk,q1,.slice (pr.map aG),.bool ac,.slice (ss.p.map aG),.slice (ss.q.map Tm.av),.int .i64 ss.bB,.int .i64 ss.used,.int .i64 ss.bL,.int .i64 ss.fin,.bool td,bO ou]++B) (n*13) [cE r',.bool bk']=A++ [cE r',.bool bk',q1,.slice (pr.map aG),.bool ac,.slice (ss.p.map aG),.slice (ss.q.map Tm.av),.int .i64 ss.bB,.int .i64 ss.used,.int .i64 ss.bL,.int .i64 ss.fin,.bool td,bO ou]++B:=by
  have:=TP (A:=A) (C:=[cE r,.bool bk,q1,.slice (pr.map aG),.bool ac,.slice (ss.p.map aG),.slice (ss.q.map Tm.av),.int .i64 ss.bB,.int .i64 ss.used,.int .i64 ss.bL,.int .i64 ss.fin,.bool td,bO ou]) (B:=B) (x:=[cE r',.bool bk']) (n:=n*13) (j:=0) hA (by simp)
  rw[lQ] at this
  rw[this];try rfl
 simp only[fG,e7,eb',hat,p2,p4,lQ,aB,seval,rN]
 refine(hfd _).to ?_
 simp only[aB,↓aW,seval,rN]
 obtain⟨z1,z2,z3,z4,z5⟩:=A1.shape
 refine wX [(0,1),(1,1),(2,1),(3,1),(4,1),(5,1),(7,1),(6,0),(8,0),(9,1),(10,1),(11,0),(12,1),(13,1),(14,2)] [0,1,2,3,4,5,7,9,10,12,13] dJ mixed rfl dF ?_
 simp only[eb',m3,z1,aB,seval,rN]
 refine⟨dF,?_⟩
 refine dY.tP (w:=2) (l:=wt.map bJ) (xs:=l'.map bJ) mS tW tY rfl (by decide) (C2.acc (2,q1,wt.map bJ) (by simp)) rfl (AP l') (by simp only[aE];omega) (fun q6 s3 A3 K3 F3=>?_)
 rw[←oN] at A3
 obtain⟨C3,f3,-⟩:=C2.grow A3 K3 F3
 have e63:=(f3 b6 (by simp)).trans e6'
 have e73:=(f3 b7 (by simp)).trans e7
 have eb3:=(f3 b (by simp)).trans eb'
 obtain⟨y1,y2,y3,y4,y5⟩:=A3.shape
 have p6:aM (A++ [cE r',.bool bk',q1,.slice (pr.map aG),.bool ac,.slice (ss.p.map aG),.slice (ss.q.map Tm.av),.int .i64 ss.bB,.int .i64 ss.used,.int .i64 ss.bL,.int .i64 ss.fin,.bool td,bO ou]++B) (n*13+2) [q6]=A++ [cE r',.bool bk',q6,.slice (pr.map aG),.bool ac,.slice (ss.p.map aG),.slice (ss.q.map Tm.av),.int .i64 ss.bB,.int .i64 ss.used,.int .i64 ss.bL,.int .i64 ss.fin,.bool td,bO ou]++B:=m1 [cE r',.bool bk',q1,.slice (pr.map aG),.bool ac,.slice (ss.p.map aG),.slice (ss.q.map Tm.av),.int .i64 ss.bB,.int .i64 ss.used,.int .i64 ss.bL,.int .i64 ss.fin,.bool td,bO ou] q6 2 (by simp)
 have p7:n*13+2+1≤(A++ [cE r',.bool bk',q1,.slice (pr.map aG),.bool ac,.slice (ss.p.map aG),.slice (ss.q.map Tm.av),.int .i64 ss.bB,.int .i64 ss.used,.int .i64 ss.bL,.int .i64 ss.fin,.bool td,bO ou]++B).length:=by simp only[dS,a8,bG];omega
 have a55:b6≠b:=nb6.symm
 simp only[eb3,lQ,y4,y5,p2,p5,p6,p7,aA.aJ,dR,aB,seval,rN]
 refine⟨dF,dF,?_⟩
 have C4:=C3.aC (d:=b) (by simp) (.cells (A++ [cE r',.bool bk',q6,.slice (pr.map aG),.bool ac,.slice (ss.p.map aG),.slice (ss.q.map Tm.av),.int .i64 ss.bB,.int .i64 ss.used,.int .i64 ss.bL,.int .i64 ss.fin,.bool td,bO ou]++B))
 have e64:=(aA.aF s3 (.cells (A++ [cE r',.bool bk',q6,.slice (pr.map aG),.bool ac,.slice (ss.p.map aG),.slice (ss.q.map Tm.av),.int .i64 ss.bB,.int .i64 ss.used,.int .i64 ss.bL,.int .i64 ss.fin,.bool td,bO ou]++B)) a55).trans e63
 have e74:=(aA.aF s3 (.cells (A++ [cE r',.bool bk',q6,.slice (pr.map aG),.bool ac,.slice (ss.p.map aG),.slice (ss.q.map Tm.av),.int .i64 ss.bB,.int .i64 ss.used,.int .i64 ss.bL,.int .i64 ss.fin,.bool td,bO ou]++B)) nb7.symm).trans e73
 have eb4:(s3.aC b (.cells (A++ [cE r',.bool bk',q6,.slice (pr.map aG),.bool ac,.slice (ss.p.map aG),.slice (ss.q.map Tm.av),.int .i64 ss.bB,.int .i64 ss.used,.int .i64 ss.bL,.int .i64 ss.fin,.bool td,bO ou]++B))) b=some (.cells (A++ [cE r',.bool bk',q6,.slice (pr.map aG),.bool ac,.slice (ss.p.map aG),.slice (ss.q.map Tm.av),.int .i64 ss.bB,.int .i64 ss.used,.int .i64 ss.bL,.int .i64 ss.fin,.bool td,bO ou]++B)):=aA.aJ _ _ _
 generalize s3.aC b (.cells (A++ [cE r',.bool bk',q6,.slice (pr.map aG),.bool ac,.slice (ss.p.map aG),.slice (ss.q.map Tm.av),.int .i64 ss.bB,.int .i64 ss.used,.int .i64 ss.bL,.int .i64 ss.fin,.bool td,bO ou]++B))=s4 at *
 simp only[e74,aB,seval]
 have T:=fun h=>(aO.dJ s4).step h
 have S:∀ {a:AV},a.bV=false→Told s4 dJ a a:=fun h=>Told.same T h
 have tq:Told s4 dJ (bO (wt++l')) q6:=Told.acc (aO.dJ s4) (C4.acc (2,q6,(wt++l').map bJ) (by simp)) (fun _ _=>rfl) (sN _) (oW _)
 refine(aD.a70 (fun st=>fM st) (.cons (Told.agg (.cons (Told.XE (os:=((cs.map bP).take n)++ .agg [cE r',.bool bk',q6,.slice (pr.map aG),.bool ac,.slice (ss.p.map aG),.slice (ss.q.map Tm.av),.int .i64 ss.bB,.int .i64 ss.used,.int .i64 ss.bL,.int .i64 ss.fin,.bool td,bO ou]::((cs.map bP).drop (n+1))) (X:=[]) ?_ rfl ?_ (AJ _) (HH _)) (.cons (S rfl) .nil))) .nil)).mono ?_
 · rw[eb4,eU,hAB]
 · rw[mV]
   refine dT.append (dT.same T jA) (.cons ?_ (dT.same T jB))
   exact Told.agg (.cons (S rfl) (.cons (S rfl) (.cons tq (.cons (S rfl) (.cons (S rfl) (.cons (S rfl) (.cons (S rfl) (.cons (S rfl) (.cons (S rfl) (.cons (S rfl) (.cons (S rfl) (.cons (S rfl) (.cons (S rfl) .nil)))))))))))))
 rintro r5 s5 ⟨bs,n1,f1,O1,k1⟩
 replace O1:aS s5 (fJ ⟨cs.set n ⟨r',bk',wt++l',pr,ac,ss,td,ou⟩,qu⟩) r5 bs:=O1
 have O1':=O1
 obtain⟨q,rfl,hq⟩:=H2.1 O1
 obtain⟨hqc,hqs,hqa,hqw,hqj⟩:=aS.sS hq
 have hb6:b6∉bs:=fun h=>by have:=f1 b6 h;rw[e64] at this;cases this
 have e65:s5 b6=some (.cells [.fslice [],.int .i64 0]):=(k1 b6 hb6).trans e64
 simp only[aM,e65,hqs,aB,seval,rN]
 refine Made.a6S n1 (fun y hy=>(C4.kH y).1 (f1 y hy)) (aS.aU _ _ _ (fun y hy=>aA.aF _ _ (fun e:y=b6=>hb6 (e▸hy))) O1') (fun y o h=>?_)
 have h1:y≠b6:=by rintro rfl;rw[h6] at h;cases h
 have h2:y∉bs:=fun hy=>by have:=f1 y hy;rw[C4.aU y o h] at this;cases this
 rw[aA.aF _ _ h1,k1 y h2]
 exact C4.aU y o h
abbrev vU:=zi aX (zi cB (zi iQ (zi oD (zi tA (zi oE (zi lM oG))))))
set_option maxHeartbeats 1000000 in
theorem aWD(s:Sv)(k:Int)(x:List Bt)(st:aA)(hb:pD s.cs≤1048576)(hx:x.length≤1048576):aD prog 5 [fJ s,.int .i64 k,cE x] st (fun r st'=>r=fJ (wS s k x)∧st'=st):=by
 have hcp:=fun st=>aU8 s hb st
 have his:=fun st=>aVA s k st
 have hri:=fun st=>aVB s st
 have hno:=fun h=>aJ7 (s:=s) (k:=k) (x:=x) h
 have yU:=fun n c hc h=>aJ8 (s:=s) (k:=n) (x:=x) (c:=c) hc h
 obtain⟨cs,qu⟩:=s
 simp only at hb yU
 simp only[fJ] at hcp his hri
 generalize hok:vT ⟨cs,qu⟩=ok at *
 simp only[] at hno
 unfold fJ
 refine aD.told ?_
 refine wF [1000000,7,8] 3 func5 ntmps5 rfl rfl ?_
 intro _
 simp only[aB,seval,vU]
 intro b6 h6
 refine(hcp _).mono ?_
 rintro _ s1 ⟨q,rfl,G⟩
 obtain⟨C1,f1,-⟩:=(fW.one h6 _).a6Q G
 have e6:=(f1 b6 (by simp)).trans (aA.aJ _ _ _)
 have A1:dY s1 13 q (cs.map bP):=C1.acc _ (l8 ..)
 obtain⟨z11,z12,z13,z14,z15⟩:=A1.shape
 simp only[aM,z15,aB,↓aW,seval,vU]
 intro b7 h7
 have C2:=C1.more h7 (.cells [q,.int .i64 qu])
 have e7:(s1.aC b7 (.cells [q,.int .i64 qu])) b7=some (.cells [q,.int .i64 qu]):=aA.aJ _ _ _
 have n76:b6≠b7:=by rintro rfl;rw[e6] at h7;cases h7
 have e6':=(aA.aF s1 (.cells [q,.int .i64 qu]) n76).trans e6
 generalize s1.aC b7 (.cells [q,.int .i64 qu])=s2 at *
 have DW:∀s5:aA,fW st s5 [b7,b6] [(13,q,cs.map bP)]→Told s5 st (.agg [.slice (cs.map bP),.int .i64 qu]) (.agg [q,.int .i64 qu]):=fun s5 D=>
  Told.agg (.cons (D.told (p:=(13,q,cs.map bP)) (by simp) (GY cs) (AJ cs)) (.cons (Told.same (fun h=>D.kH.step h) rfl) .nil))
 refine(his _).to ?_
 cases hI:(decide (0≤k)&&decide (k<(cs.length:Int))) with
 | false=>
  simp only[kO,aM,e6',e7,z15,aB,seval,vU]
  rw[hno (by rw[hI];simp)]
  exact⟨_,st,(C2.aC (by simp) _).kH,DW _ (C2.aC (by simp) _),rfl,rfl⟩
 | true=>
  simp only[fG,aB,seval,vU]
  refine(hri _).to ?_
  cases ok with
  | false=>
   simp only[kO,aM,e6',e7,z15,aB,seval,vU]
   rw[hno (by simp)]
   exact⟨_,st,(C2.aC (by simp) _).kH,DW _ (C2.aC (by simp) _),rfl,rfl⟩
  | true=>
   simp only[cY,bM] at hI
   obtain⟨n,rfl⟩:∃n:Nat,k=n:=⟨k.toNat,by omega⟩
   obtain⟨c,hc⟩:∃c,cs[n]?=some c:=⟨_,eK (by omega)⟩
   rw[yU n c hc rfl]
   have hcz:fH c≤1048576:=nN (AI (cH hc)) hb
   obtain⟨b,X,hq,hqb,eb,hA⟩:=dY.split (w:=13) (q:=q) (l:=cs.map bP) (C2.acc _ (l8 ..)) (AJ cs) (k:=n) (e:=bP c) (by rw[kD,hc];try rfl)
   subst hq
   rw[aE] at *
   have hat:=kT (P:=prog) (b:=b) (len:=cs.length) (w:=13) (i:=n) qU (by omega)
   have hfb:=KZ c.rest c.brk x
   have hfd:=fun st=>aWC c.rest c.brk x st (by have h:c.rest.length≤fH c:=(by unfold fH;omega);omega)
   have hfc:t6 c x= { c with rest:=(jE c.rest c.brk x).1.1,brk:=(jE c.rest c.brk x).1.2,wait:=c.wait++(jE c.rest c.brk x).2 }:=rfl
   rw[hfc]
   have hwl:c.wait.length≤1048576:=by unfold fH sW at hcz;omega
   have hrl:c.rest.length≤1048576:=by unfold fH at hcz;omega
   generalize jE c.rest c.brk x=T at *
   obtain⟨⟨r',bk'⟩,l'⟩:=T
   simp only[oL] at hfd hfb ⊢
   have mV:∀y:eF,(cs.set n y).map bP=(cs.map bP).take n++bP y::(cs.map bP).drop (n+1):=fun y=>by
    rw[List.map_set,OW,aN (by rw[aE];omega)]
   have jA:∀e∈(cs.map bP).take n,e.bV=false:=fun e he=>GY cs e (l9 he)
   have jB:∀e∈(cs.map bP).drop (n+1),e.bV=false:=fun e he=>GY cs e (OV he)
   have HH:∀y:eF,((cs.set n y).map bP).length=cs.length:=fun y=>by rw[aE,List.length_set]
   obtain⟨r,bk,wt,pr,ac,ss,td,ou⟩:=c
   simp only[gS] at hfd hfb hwl hrl mV HH ⊢
   replace eb:s2 b=some (.cells (((cs.map bP).take n).flatMap AV.cells++ [cE r,.bool bk,bO wt,.slice (pr.map aG),.bool ac,.slice (ss.p.map aG),.slice (ss.q.map Tm.av),.int .i64 ss.bB,.int .i64 ss.used,.int .i64 ss.bL,.int .i64 ss.fin,.bool td,bO ou]++(((cs.map bP).drop (n+1)).flatMap AV.cells++X))):=eb
   have hAB:∀C':List AV,(((cs.map bP).take n)++ .agg C'::((cs.map bP).drop (n+1))).flatMap AV.cells++X=((cs.map bP).take n).flatMap AV.cells++C'++(((cs.map bP).drop (n+1)).flatMap AV.cells++X):=fun C'=>by simp [AV.cells]
   generalize hLA:((cs.map bP).take n).flatMap AV.cells=A at *
   generalize hLB:((cs.map bP).drop (n+1)).flatMap AV.cells++X=B at *
   have p3:∀C':List AV,C'.length=13→(aM (A++ [cE r,.bool bk,bO wt,.slice (pr.map aG),.bool ac,.slice (ss.p.map aG),.slice (ss.q.map Tm.av),.int .i64 ss.bB,.int .i64 ss.used,.int .i64 ss.bL,.int .i64 ss.fin,.bool td,bO ou]++B) (n*13) C'=A++C'++B∧n*13+13≤(A++ [cE r,.bool bk,bO wt,.slice (pr.map aG),.bool ac,.slice (ss.p.map aG),.slice (ss.q.map Tm.av),.int .i64 ss.bB,.int .i64 ss.used,.int .i64 ss.bL,.int .i64 ss.fin,.bool td,bO ou]++B).length):=fun C' h=>EK hA rfl h
   have p2:=(p3 [cE r,.bool bk,bO wt,.slice (pr.map aG),.bool ac,.slice (ss.p.map aG),.slice (ss.q.map Tm.av),.int .i64 ss.bB,.int .i64 ss.used,.int .i64 ss.bL,.int .i64 ss.fin,.bool td,bO ou] rfl).2
   have p4:((A++ [cE r,.bool bk,bO wt,.slice (pr.map aG),.bool ac,.slice (ss.p.map aG),.slice (ss.q.map Tm.av),.int .i64 ss.bB,.int .i64 ss.used,.int .i64 ss.bL,.int .i64 ss.fin,.bool td,bO ou]++B).drop (n*13)).take 13= [cE r,.bool bk,bO wt,.slice (pr.map aG),.bool ac,.slice (ss.p.map aG),.slice (ss.q.map Tm.av),.int .i64 ss.bB,.int .i64 ss.used,.int .i64 ss.bL,.int .i64 ss.fin,.bool td,bO ou]:=by rw[kC,List.drop_left' hA];try rfl
   have nb7:b≠b7:=fun e=>(C2.fresh _ (l8 ..) b (by simp [bU])).2 (by simp [e])
   have nb6:b≠b6:=fun e=>(C2.fresh _ (l8 ..) b (by simp [bU])).2 (by simp [e])
   have BC:st b=none:=(C2.fresh _ (l8 ..) b (by simp [bU])).1
   simp only[fG,aM,e7,z11,hat,eb,p2,p4,aB,↓aW,seval,vU]
   intro b8 h8
   have C3:=C2.more h8 (.cells [cE r,.bool bk,bO wt,.slice (pr.map aG),.bool ac,.slice (ss.p.map aG),.slice (ss.q.map Tm.av),.int .i64 ss.bB,.int .i64 ss.used,.int .i64 ss.bL,.int .i64 ss.fin,.bool td,bO ou])
   have m6:b6≠b8:=by rintro rfl;rw[e6'] at h8;cases h8
   have m7:b7≠b8:=by rintro rfl;rw[e7] at h8;cases h8
   have mb:b≠b8:=by rintro rfl;rw[eb] at h8;cases h8
   have e63:=(aA.aF s2 (.cells [cE r,.bool bk,bO wt,.slice (pr.map aG),.bool ac,.slice (ss.p.map aG),.slice (ss.q.map Tm.av),.int .i64 ss.bB,.int .i64 ss.used,.int .i64 ss.bL,.int .i64 ss.fin,.bool td,bO ou]) m6).trans e6'
   have e73:=(aA.aF s2 (.cells [cE r,.bool bk,bO wt,.slice (pr.map aG),.bool ac,.slice (ss.p.map aG),.slice (ss.q.map Tm.av),.int .i64 ss.bB,.int .i64 ss.used,.int .i64 ss.bL,.int .i64 ss.fin,.bool td,bO ou]) m7).trans e7
   have eb3:=(aA.aF s2 (.cells [cE r,.bool bk,bO wt,.slice (pr.map aG),.bool ac,.slice (ss.p.map aG),.slice (ss.q.map Tm.av),.int .i64 ss.bB,.int .i64 ss.used,.int .i64 ss.bL,.int .i64 ss.fin,.bool td,bO ou]) mb).trans eb
   have e83:(s2.aC b8 (.cells [cE r,.bool bk,bO wt,.slice (pr.map aG),.bool ac,.slice (ss.p.map aG),.slice (ss.q.map Tm.av),.int .i64 ss.bB,.int .i64 ss.used,.int .i64 ss.bL,.int .i64 ss.fin,.bool td,bO ou])) b8=some (.cells [cE r,.bool bk,bO wt,.slice (pr.map aG),.bool ac,.slice (ss.p.map aG),.slice (ss.q.map Tm.av),.int .i64 ss.bB,.int .i64 ss.used,.int .i64 ss.bL,.int .i64 ss.fin,.bool td,bO ou]):=aA.aJ _ _ _
   generalize s2.aC b8 (.cells [cE r,.bool bk,bO wt,.slice (pr.map aG),.bool ac,.slice (ss.p.map aG),.slice (ss.q.map Tm.av),.int .i64 ss.bB,.int .i64 ss.used,.int .i64 ss.bL,.int .i64 ss.fin,.bool td,bO ou])=s3 at *
   refine(hfd _).to ?_
   simp only[aM,e83,aB,↓aW,seval,vU]
   have C4:=C3.aC (d:=b8) (by simp) (.cells [cE r',.bool bk',bO wt,.slice (pr.map aG),.bool ac,.slice (ss.p.map aG),.slice (ss.q.map Tm.av),.int .i64 ss.bB,.int .i64 ss.used,.int .i64 ss.bL,.int .i64 ss.fin,.bool td,bO ou])
   have e64:=(aA.aF s3 (.cells [cE r',.bool bk',bO wt,.slice (pr.map aG),.bool ac,.slice (ss.p.map aG),.slice (ss.q.map Tm.av),.int .i64 ss.bB,.int .i64 ss.used,.int .i64 ss.bL,.int .i64 ss.fin,.bool td,bO ou]) m6).trans e63
   have e74:=(aA.aF s3 (.cells [cE r',.bool bk',bO wt,.slice (pr.map aG),.bool ac,.slice (ss.p.map aG),.slice (ss.q.map Tm.av),.int .i64 ss.bB,.int .i64 ss.used,.int .i64 ss.bL,.int .i64 ss.fin,.bool td,bO ou]) m7).trans e73
   have eb4:=(aA.aF s3 (.cells [cE r',.bool bk',bO wt,.slice (pr.map aG),.bool ac,.slice (ss.p.map aG),.slice (ss.q.map Tm.av),.int .i64 ss.bB,.int .i64 ss.used,.int .i64 ss.bL,.int .i64 ss.fin,.bool td,bO ou]) mb).trans eb3
   have e84:(s3.aC b8 (.cells [cE r',.bool bk',bO wt,.slice (pr.map aG),.bool ac,.slice (ss.p.map aG),.slice (ss.q.map Tm.av),.int .i64 ss.bB,.int .i64 ss.used,.int .i64 ss.bL,.int .i64 ss.fin,.bool td,bO ou])) b8=some (.cells [cE r',.bool bk',bO wt,.slice (pr.map aG),.bool ac,.slice (ss.p.map aG),.slice (ss.q.map Tm.av),.int .i64 ss.bB,.int .i64 ss.used,.int .i64 ss.bL,.int .i64 ss.fin,.bool td,bO ou]):=aA.aJ _ _ _
   generalize s3.aC b8 (.cells [cE r',.bool bk',bO wt,.slice (pr.map aG),.bool ac,.slice (ss.p.map aG),.slice (ss.q.map Tm.av),.int .i64 ss.bB,.int .i64 ss.used,.int .i64 ss.bL,.int .i64 ss.fin,.bool td,bO ou])=s4 at *
   refine dY.tP (w:=2) (l:=[]) (xs:=wt.map bJ) mS tW tY rfl (by decide) (.inl ⟨rfl,rfl⟩) rfl (AP wt) (by simp only[bG,aE];omega) (fun q5 s5 A5 K5 F5=>?_)
   rw[eE] at A5
   obtain⟨C5,f5,k5⟩:=(C4.new 2).grow A5 K5 F5
   have e65:=(f5 b6 (by simp)).trans e64
   have e75:=(f5 b7 (by simp)).trans e74
   have e85:=(f5 b8 (by simp)).trans e84
   have eb5:=(k5 _ (l8 ..) b (by simp [bU])).trans eb4
   obtain⟨z51,z52,z53,z54,z55⟩:=A5.shape
   simp only[aB,seval]
   refine dY.tP (w:=2) (l:=wt.map bJ) (xs:=l'.map bJ) mS tW tY rfl (by decide) A5 rfl (AP l') (by simp only[aE];omega) (fun q6 s6 A6 K6 F6=>?_)
   rw[←oN] at A6
   obtain⟨C6,f6,k6⟩:=C5.grow A6 K6 F6
   have e66:=(f6 b6 (by simp)).trans e65
   have e76:=(f6 b7 (by simp)).trans e75
   have e86:=(f6 b8 (by simp)).trans e85
   have eb6:=(k6 _ (l8 ..) b (by simp [bU])).trans eb5
   obtain⟨z61,z62,z63,z64,z65⟩:=A6.shape
   simp only[aM,e86,z64,z65,aB,seval,vU]
   have C7:=C6.aC (d:=b8) (by simp) (.cells [cE r',.bool bk',q6,.slice (pr.map aG),.bool ac,.slice (ss.p.map aG),.slice (ss.q.map Tm.av),.int .i64 ss.bB,.int .i64 ss.used,.int .i64 ss.bL,.int .i64 ss.fin,.bool td,bO ou])
   have e67:=(aA.aF s6 (.cells [cE r',.bool bk',q6,.slice (pr.map aG),.bool ac,.slice (ss.p.map aG),.slice (ss.q.map Tm.av),.int .i64 ss.bB,.int .i64 ss.used,.int .i64 ss.bL,.int .i64 ss.fin,.bool td,bO ou]) m6).trans e66
   have e77:=(aA.aF s6 (.cells [cE r',.bool bk',q6,.slice (pr.map aG),.bool ac,.slice (ss.p.map aG),.slice (ss.q.map Tm.av),.int .i64 ss.bB,.int .i64 ss.used,.int .i64 ss.bL,.int .i64 ss.fin,.bool td,bO ou]) m7).trans e76
   have eb7:=(aA.aF s6 (.cells [cE r',.bool bk',q6,.slice (pr.map aG),.bool ac,.slice (ss.p.map aG),.slice (ss.q.map Tm.av),.int .i64 ss.bB,.int .i64 ss.used,.int .i64 ss.bL,.int .i64 ss.fin,.bool td,bO ou]) mb).trans eb6
   have e87:(s6.aC b8 (.cells [cE r',.bool bk',q6,.slice (pr.map aG),.bool ac,.slice (ss.p.map aG),.slice (ss.q.map Tm.av),.int .i64 ss.bB,.int .i64 ss.used,.int .i64 ss.bL,.int .i64 ss.fin,.bool td,bO ou])) b8=some (.cells [cE r',.bool bk',q6,.slice (pr.map aG),.bool ac,.slice (ss.p.map aG),.slice (ss.q.map Tm.av),.int .i64 ss.bB,.int .i64 ss.used,.int .i64 ss.bL,.int .i64 ss.fin,.bool td,bO ou]):=aA.aJ _ _ _
   generalize s6.aC b8 (.cells [cE r',.bool bk',q6,.slice (pr.map aG),.bool ac,.slice (ss.p.map aG),.slice (ss.q.map Tm.av),.int .i64 ss.bB,.int .i64 ss.used,.int .i64 ss.bL,.int .i64 ss.fin,.bool td,bO ou])=s7 at *
   have p5:=(p3 [cE r',.bool bk',q6,.slice (pr.map aG),.bool ac,.slice (ss.p.map aG),.slice (ss.q.map Tm.av),.int .i64 ss.bB,.int .i64 ss.used,.int .i64 ss.bL,.int .i64 ss.fin,.bool td,bO ou] rfl).1
   have p6:=(p3 [cE r',.bool bk',q6,.slice (pr.map aG),.bool ac,.slice (ss.p.map aG),.slice (ss.q.map Tm.av),.int .i64 ss.bB,.int .i64 ss.used,.int .i64 ss.bL,.int .i64 ss.fin,.bool td,bO ou] rfl).2
   simp only[e77,eb7,e87,z65,hat,p5,p6,aB,seval,vU]
   have D7:aO (s7.aC b (.cells (A++ [cE r',.bool bk',q6,.slice (pr.map aG),.bool ac,.slice (ss.p.map aG),.slice (ss.q.map Tm.av),.int .i64 ss.bB,.int .i64 ss.used,.int .i64 ss.bL,.int .i64 ss.fin,.bool td,bO ou]++B))) st:=C7.kH.aC BC
   have e68:=(aA.aF s7 (.cells (A++ [cE r',.bool bk',q6,.slice (pr.map aG),.bool ac,.slice (ss.p.map aG),.slice (ss.q.map Tm.av),.int .i64 ss.bB,.int .i64 ss.used,.int .i64 ss.bL,.int .i64 ss.fin,.bool td,bO ou]++B)) nb6.symm).trans e67
   have e78:=(aA.aF s7 (.cells (A++ [cE r',.bool bk',q6,.slice (pr.map aG),.bool ac,.slice (ss.p.map aG),.slice (ss.q.map Tm.av),.int .i64 ss.bB,.int .i64 ss.used,.int .i64 ss.bL,.int .i64 ss.fin,.bool td,bO ou]++B)) nb7.symm).trans e77
   generalize hs8:s7.aC b (.cells (A++ [cE r',.bool bk',q6,.slice (pr.map aG),.bool ac,.slice (ss.p.map aG),.slice (ss.q.map Tm.av),.int .i64 ss.bB,.int .i64 ss.used,.int .i64 ss.bL,.int .i64 ss.fin,.bool td,bO ou]++B))=s8 at *
   have eb8:s8 b=some (.cells (A++ [cE r',.bool bk',q6,.slice (pr.map aG),.bool ac,.slice (ss.p.map aG),.slice (ss.q.map Tm.av),.int .i64 ss.bB,.int .i64 ss.used,.int .i64 ss.bL,.int .i64 ss.fin,.bool td,bO ou]++B)):=by rw[←hs8];exact aA.aJ _ _ _
   have k8:∀y,y≠b→s8 y=s7 y:=fun y hy=>by rw[←hs8];exact aA.aF _ _ hy
   simp only[e68,e78,aM,aB,seval,vU]
   have D9:∀o,aO (s8.aC b6 o) st:=fun o=>D7.aC h6
   refine⟨_,st,D9 _,?_,rfl,rfl⟩
   have T:=fun h=>(D9 (.cells [.mslice b 0 cs.length 13,.int .i64 qu])).step h
   have hq6:∀y∈bU q6,st y=none∧y≠b∧y≠b6:=fun y hy=>by
    obtain⟨h1,h2⟩:=C7.fresh (2,q6,(wt++l').map bJ) (by simp) y hy
    have h3:=(JH.1 C7.apart).1 _ (l8 ..) y hy
    simp only[bU,cG,cX,dG,jI] at h2 h3
    exact⟨h1,h3,h2.2.2⟩
   have A9:dY (s8.aC b6 (.cells [.mslice b 0 cs.length 13,.int .i64 qu])) 2 q6 ((wt++l').map bJ):=(C7.acc (2,q6,(wt++l').map bJ) (by simp)).aU fun y hy=>by
    obtain⟨h1,h2,h3⟩:=hq6 y hy
    rw[aA.aF _ _ h3,k8 y h2]
   have S:∀ {a:AV},a.bV=false→Told (s8.aC b6 (.cells [.mslice b 0 cs.length 13,.int .i64 qu])) st a a:=fun h=>Told.same T h
   have tq:=Told.acc (D9 _) A9 (fun y hy=>(hq6 y hy).1) (sN _) (oW _)
   refine Told.agg (.cons (Told.XE (os:=((cs.map bP).take n)++ .agg [cE r',.bool bk',q6,.slice (pr.map aG),.bool ac,.slice (ss.p.map aG),.slice (ss.q.map Tm.av),.int .i64 ss.bB,.int .i64 ss.used,.int .i64 ss.bL,.int .i64 ss.fin,.bool td,bO ou]::((cs.map bP).drop (n+1))) (X:=X) ?_ BC ?_ (AJ _) (HH _)) (.cons (S rfl) .nil))
   · rw[aA.aF _ _ nb6,eb8,hAB]
   · rw[mV]
     refine dT.append (dT.same T jA) (.cons ?_ (dT.same T jB))
     exact Told.agg (.cons (S rfl) (.cons (S rfl) (.cons tq (.cons (S rfl) (.cons (S rfl) (.cons (S rfl) (.cons (S rfl) (.cons (S rfl) (.cons (S rfl) (.cons (S rfl) (.cons (S rfl) (.cons (S rfl) (.cons (S rfl) .nil)))))))))))))
theorem vS(s:Sv):(fJ s).width=2:=rfl
theorem MS(s:Sv):(fJ s).cells.all AV.storable=true:=rfl
theorem TV(s:Sv):(fJ s).bV=false:=rfl
theorem vR(s:Sv):(fJ s).isAgg=true:=rfl

abbrev aOY:=zi aX (zi tB (zi iQ dD))
theorem aUP(n:Nat)(j:Int)(st:aA)(hj0:0≤j)(hj1:j+n≤1099511627776) :
 aD prog 48 [cE (seqB n j),.int .i64 j] st (fun r st'=>r=.int .i64 (j+n)∧st'=st):=by
 refine wF [1000000] 2 func48 ntmps48 rfl rfl ?_
 simp only[cV,AV.fits,dE,aE,TO]
 intro ⟨hl,_⟩
 have hBL:(seqB n j).length=n:=TO n j
 simp only[aB,seval]
 refine dI (σ:=Int) [1000000] [0] (seqB n j) (fun i k=>(seqB n j).drop i=seqB (n - i) k∧k=j+i) (fun i k=>[(1,.int .i64 k),(4,.int .i64 0),(5,.int .i64 i)]) (fun _ _=>st) (by decide +kernel)
  ⟨j,⟨rfl,by simp⟩,aP.mk (by simp only[aB,↓aW,seval])⟩ (fun i x k hx hlt a7 hdr hinv=>?_) (fun k hge hinv=>?_)
 case refine_2=>
  rw[hinv.2]
  rw[hBL] at hge ⊢
  simp only[hge,aE,hBL,aB,seval,aOY]
 rw[hBL] at hlt a7
 obtain⟨i1,i2⟩:=hinv
 rw[hdr,show n - i=(n - (i+1))+1 by omega,seqB] at i1
 obtain⟨rfl,i3⟩:=pK i1
 have hw0:=XH (k:=k) (by omega)
 have hw1:=aZ (n:=k+1)
 have hw4:=aZ (n:=(i:Int)+1)
 have hat:=bH (av:=bX) jC hx rfl
 simp only[a7,dU,fG,aE,hBL,hat,bX,hw0,hw1,hw4,pM,aB,seval,aOY]
 exact⟨k+1,⟨i3,by omega⟩,aP.mk (by simp only[aB,seval])⟩
abbrev BV:=zi aX (zi cB (zi iQ (zi oD (zi oE (zi lM (zi gL (zi cI (zi oF (zi oG dD)))))))))
set_option maxHeartbeats 1000000 in
theorem aUQ(l:List eF)(j:Int)(st:aA)(h0:0≤j)(h1:j+aH fY l≤1099511627776) :
 aD prog 26 [.slice ((dX sF fY l j).map bP),.int .i64 j] st (fun r st'=>r=.int .i64 (j+aH fY l)∧st'=st):=by
 refine wF [1000000] 2 func26 ntmps26 rfl rfl ?_
 simp only[cV,AV.fits,dE,aE,xC]
 intro ⟨hl,_⟩
 have hML:(dX sF fY l j).length=l.length:=xC _ _ _ _
 simp only[aB,seval]
 refine dI (σ:=Unit) [1000000] [0] (dX sF fY l j) (fun i _=>True) (fun i _=>[(1,.int .i64 (j+aH fY (l.take i))),(4,.int .i64 0),(5,.int .i64 i)]) (fun _ _=>st) (by decide +kernel) ⟨(),trivial,aP.mk (by simp only[aH,kE,Int.add_zero,aB,↓aW,seval])⟩ (fun i x _ hx hlt a7 hdr hinv=>?_) (fun _ hge hinv=>?_)
 case refine_2=>
  rw[hML] at hge
  simp only[hge,eD,aE,hML,aB,seval,BV]
 rw[hML] at hlt a7
 obtain⟨y,hy⟩:∃y,l[i]?=some y:=⟨_,eK hlt⟩
 obtain⟨r,bk,wt,pr,ac,ss,td,ou⟩:=y
 have hxy:x=sF ⟨r,bk,wt,pr,ac,ss,td,ou⟩ (j+aH fY (l.take i)):=by
  have:=HS sF fY l j i
  rw[hdr,oM hlt,dX,(fC.1 hy).2] at this
  exact(pK this).1
 have hs:=rK fY hy
 have hcm:fY ⟨r,bk,wt,pr,ac,ss,td,ou⟩=r.length+1+aH eV wt+aH fF pr+1+aH fF ss.p+aH Tm.dB ss.q+4+1+aH eV ou:=rfl
 rw[hcm] at hs
 have hat:=bH (av:=bP) qU hx (kR x)
 generalize hk:j+(aH fY (l.take i):Int)=k at *
 have hck:=ZT r bk wt pr ac ss td ou k _ rfl
 rw[hxy,hck] at hat
 simp only[bP,wM] at hat
 obtain⟨hs1,hs2⟩:=hs
 have f0:=aUP r.length k st (by omega) (by omega)
 generalize hf0:r.length=n0 at *
 have hw1:=aZ (n:=k+(n0:Int)+1)
 have f1:=XW wt (k+(n0:Int)+1) st (by omega) (by omega)
 generalize hf1:aH eV wt=n1 at *
 have f2:=XV pr (k+(n0:Int)+1+(n1:Int)) st (by omega) (by omega)
 generalize hf2:aH fF pr=n2 at *
 have hw2:=aZ (n:=k+(n0:Int)+1+(n1:Int)+(n2:Int)+1)
 have f3:=XV ss.p (k+(n0:Int)+1+(n1:Int)+(n2:Int)+1) st (by omega) (by omega)
 generalize hf3:aH fF ss.p=n3 at *
 have f4:=KA ss.q (k+(n0:Int)+1+(n1:Int)+(n2:Int)+1+(n3:Int)) st (by omega) (by omega)
 generalize hf4:aH Tm.dB ss.q=n4 at *
 have hw:=aZ (n:=(i:Int)+1)
 simp only[a7,dU,aE,hML,hat,aB,seval,BV]
 refine f0.to ?_
 have g0:=gO (show ¬(k+(n0:Int)<0) by omega)
 simp only[g0,dW,fX,fG,hat,hw1,aB,seval,BV]
 refine f1.to ?_
 have g1:=gO (show ¬(k+(n0:Int)+1+(n1:Int)<0) by omega)
 simp only[g1,dW,hat,aB,seval,BV]
 refine f2.to ?_
 have g2:=gO (show ¬(k+(n0:Int)+1+(n1:Int)+(n2:Int)<0) by omega)
 simp only[g2,dW,fX,fG,hat,hw2,aB,seval,BV]
 refine f3.to ?_
 have g3:=gO (show ¬(k+(n0:Int)+1+(n1:Int)+(n2:Int)+1+(n3:Int)<0) by omega)
 simp only[g3,dW,hat,aB,seval,BV]
 refine f4.to ?_
 have g4:=gO (show ¬(k+(n0:Int)+1+(n1:Int)+(n2:Int)+1+(n3:Int)+(n4:Int)<0) by omega)
 generalize hm:k+(n0:Int)+1+(n1:Int)+(n2:Int)+1+(n3:Int)+(n4:Int)=m at *
 have f5:=XW ou (m+1+1+1+1+1) st (by omega) (by omega)
 generalize hf5:aH eV ou=n5 at *
 have hv1:=aZ (n:=m+1)
 have hv2:=aZ (n:=m+1+1)
 have hv3:=aZ (n:=m+1+1+1)
 have hv4:=aZ (n:=m+1+1+1+1)
 have hv5:=aZ (n:=m+1+1+1+1+1)
 simp only[g4,dW,dU,fX,fG,hat,hv1,hv2,hv3,hv4,hv5,aB,seval,BV]
 refine f5.to ?_
 have g5:=gO (show ¬(m+1+1+1+1+1+(n5:Int)<0) by omega)
 simp only[g5,dW,hw,aB,seval]
 refine⟨(),aP.mk ?_⟩
 have e:j+((aH fY (l.take (i+1)):Nat):Int)=m+1+1+1+1+1+(n5:Int):=by omega
 rw[e]
 simp only[aB,seval]
abbrev a89:=zi aX (zi oD (zi tA dD))
theorem XX(s:Sv)(j:Int)(st:aA)(h0:0≤j)(h1:j+aH fY s.cs≤1099511627776) :
 aD prog 13 [fJ { s with cs:=dX sF fY s.cs j },.int .i64 j] st (fun r st'=>r=.int .i64 (j+aH fY s.cs)∧st'=st):=by
 have hc:=aUQ s.cs j st h0 h1
 have g:=gO (show ¬(j+(aH fY s.cs:Int)<0) by omega)
 simp only[fJ]
 refine wF [1000000] 2 func13 ntmps13 rfl rfl ?_
 intro _
 simp only[aB,seval,a89]
 refine hc.to ?_
 simp only[g,dW,aB,seval]
end Go.AW
