import Derived.Test.YtkkihpokegenbaaGreatDoorVao
import Derived.Test.YtkkihpokegenbaaGreatDoorVan
import Derived.Test.YtkkihpokegenbaaGreatDoorVak
import Derived.Test.YtkkihpokegenbaaGreatDoorVah
set_option linter.unusedSimpArgs false
set_option linter.unusedVariables false
set_option maxRecDepth 100000
namespace Go.AW
open Go.Proofs.Tryz
theorem u9(l:List Fr):uO 2 (l.map bO):=fun e he=>by simp only[cM] at he;obtain⟨t,_,rfl⟩:=he;exact⟨rfl,rfl⟩
theorem uW(l:List cP):∀e∈l.map bF,e.width=13:=by intro e h;simp only[cM] at h;obtain⟨t,_,rfl⟩:=h;rfl
theorem E2(l:List cP):∀e∈l.map bF,e.bR=false:=by intro e h;simp only[cM] at h;obtain⟨t,_,rfl⟩:=h;rfl
abbrev o7 (c:cP):Prop:=c.rest.length≤4194304∧c.wait.length≤4194304∧c.out.length≤1048576∧(c.prog.length≤1048576∧∀x∈c.prog,E0 x)∧(c.ses.p.length≤1048576∧∀x∈c.ses.p,E0 x)∧c.ses.q.length≤1048576∧∀x∈c.ses.q,x.small=true
theorem FV{st:aA}{b2 c:Nat}{o o':AO}(hb2:st b2=none)(hc:(st.aC b2 o) c=none):dG st ((st.aC b2 o).aC c o') [b2,c] []:=by
 have hne:c≠b2:=by rintro rfl;rw[aA.aH] at hc;cases hc
 have hcn:st c=none:=by rw[aA.aJ st _ hne] at hc;exact hc
 refine dG.start (fun d hd=>?_) (fun x o h=>?_)
 · simp only[cL,c8,dP] at hd
   rcases hd with rfl | rfl
   · exact⟨hb2,by rw[aA.aJ _ _ (dM hne),aA.aH];simp⟩
   · exact⟨hcn,by rw[aA.aH];simp⟩
 · have h1:x≠b2:=by rintro rfl;rw[hb2] at h;cases h
   have h2:x≠c:=by rintro rfl;rw[hcn] at h;cases h
   rw[aA.aJ _ _ h2,aA.aJ _ _ h1];exact h
abbrev jX:=zi aS (zi bV (zi kH (zi iE (zi rE (zi jK (zi oK (zi kI lV)))))))
set_option maxHeartbeats 1000000 in
theorem aP2(c:cP)(hb:o7 c)(st:aA):aD prog 76 [bF c] st (fun r st'=>r=bF c∧st'=st):=by
 obtain⟨k1,k2,k3,⟨k4,k5⟩,⟨k6,k7⟩,k8,k9⟩:=hb
 obtain⟨r,bk,wt,pr,ac,ss,td,ou⟩:=c
 simp only at k1 k2 k3 k4 k5 k6 k7 k8 k9
 have h10:=fun s=>MT ss k6 k7 k8 k9 s
 simp only[bF,eR]
 unfold iZ at h10
 refine aD.told ?_
 refine wF [1000000,3] 1 func76 ntmps76 rfl rfl ?_
 intro _
 simp only[aB,seval,jX]
 intro b2 hb2
 refine aNM (.br [(0,1),(1,1),(2,1),(3,1),(4,1),(5,1)] 6 8 (.fin [(7,1),(8,0),(9,0)]) (.fin [(6,0),(7,1),(9,0)])) [0,1,2,3,4,5,7] eF mixed (by decide +kernel) rfl (by decide +kernel) d4 ?_
 simp only[LZ,RL,aLY,aLZ,RM,aB,seval,jX]
 refine⟨?_,fun c hc=>⟨d4,?_⟩⟩
 · refine(h10 _).to ?_
   simp only[aG,LZ,RM,aB,seval,jX]
   refine⟨d4,fun c hc=>⟨d4,d4,?_⟩⟩
   have hne:c≠b2:=by rintro rfl;rw[aA.aH] at hc;cases hc
   have C0:dG st ((st.aC b2 (.cells [.fslice [],.bool false,.fslice [],.fslice [],.bool false,.fslice [],.fslice [],.int .i64 0,.int .i64 0,.int .i64 0,.int .i64 0,.bool false,.fslice []])).aC c (.cells [.fslice [],.bool false,.fslice [],.fslice [],.bool ac,.slice (ss.p.map aF),.slice (ss.q.map Tm.av),.int .i64 ss.quota,.int .i64 ss.used,.int .i64 ss.sent,.int .i64 ss.fin,.bool td,.fslice []])) [b2,c] []:=FV hb2 hc
   have e0:((st.aC b2 (.cells [.fslice [],.bool false,.fslice [],.fslice [],.bool false,.fslice [],.fslice [],.int .i64 0,.int .i64 0,.int .i64 0,.int .i64 0,.bool false,.fslice []])).aC c (.cells [.fslice [],.bool false,.fslice [],.fslice [],.bool ac,.slice (ss.p.map aF),.slice (ss.q.map Tm.av),.int .i64 ss.quota,.int .i64 ss.used,.int .i64 ss.sent,.int .i64 ss.fin,.bool td,.fslice []])) c=some (.cells [.fslice [],.bool false,.fslice [],.fslice [],.bool ac,.slice (ss.p.map aF),.slice (ss.q.map Tm.av),.int .i64 ss.quota,.int .i64 ss.used,.int .i64 ss.sent,.int .i64 ss.fin,.bool td,.fslice []]):=aA.aH _ _ _
   have g0:((st.aC b2 (.cells [.fslice [],.bool false,.fslice [],.fslice [],.bool false,.fslice [],.fslice [],.int .i64 0,.int .i64 0,.int .i64 0,.int .i64 0,.bool false,.fslice []])).aC c (.cells [.fslice [],.bool false,.fslice [],.fslice [],.bool ac,.slice (ss.p.map aF),.slice (ss.q.map Tm.av),.int .i64 ss.quota,.int .i64 ss.used,.int .i64 ss.sent,.int .i64 ss.fin,.bool td,.fslice []])) b2=some (.cells [.fslice [],.bool false,.fslice [],.fslice [],.bool false,.fslice [],.fslice [],.int .i64 0,.int .i64 0,.int .i64 0,.int .i64 0,.bool false,.fslice []]):=by rw[aA.aJ _ _ hne.symm,aA.aH]
   generalize (st.aC b2 (.cells [.fslice [],.bool false,.fslice [],.fslice [],.bool false,.fslice [],.fslice [],.int .i64 0,.int .i64 0,.int .i64 0,.int .i64 0,.bool false,.fslice []])).aC c (.cells [.fslice [],.bool false,.fslice [],.fslice [],.bool ac,.slice (ss.p.map aF),.slice (ss.q.map Tm.av),.int .i64 ss.quota,.int .i64 ss.used,.int .i64 ss.sent,.int .i64 ss.fin,.bool td,.fslice []])=s0 at *
   refine wX [(0,1),(1,1),(2,1),(3,1),(5,1),(6,1),(7,1),(4,0),(8,1),(9,1),(10,2)] [0,1,2,3,5,6,7,8,9] eF mixed rfl d4 ?_
   simp only[aB,seval,jX]
   refine d3.rT (w:=1) (l:=[]) (xs:=r.map bJ) iK qN qP rfl (by decide) (.inl ⟨rfl,rfl⟩) rfl (sZ r) (by simp only[a8,aE];omega) (fun q1 s1 A1 K1 F1=>?_)
   rw[dL] at A1
   obtain⟨C1,f1,-⟩:=(C0.new 1).grow A1 K1 F1
   have e1:s1 c=some (.cells [.fslice [],.bool false,.fslice [],.fslice [],.bool ac,.slice (ss.p.map aF),.slice (ss.q.map Tm.av),.int .i64 ss.quota,.int .i64 ss.used,.int .i64 ss.sent,.int .i64 ss.fin,.bool td,.fslice []]):=(f1 c (by simp)).trans e0
   have g1:=(f1 b2 (by simp)).trans g0
   obtain⟨z11,z12,z13,z14,z15⟩:=A1.shape
   simp only[aG,e1,z13,z14,z15,aB,seval,jX]
   refine⟨d4,?_⟩
   have C1:=C1.aC (d:=c) (by simp) (.cells [q1,.bool bk,.fslice [],.fslice [],.bool ac,.slice (ss.p.map aF),.slice (ss.q.map Tm.av),.int .i64 ss.quota,.int .i64 ss.used,.int .i64 ss.sent,.int .i64 ss.fin,.bool td,.fslice []])
   have e1:(s1.aC c (.cells [q1,.bool bk,.fslice [],.fslice [],.bool ac,.slice (ss.p.map aF),.slice (ss.q.map Tm.av),.int .i64 ss.quota,.int .i64 ss.used,.int .i64 ss.sent,.int .i64 ss.fin,.bool td,.fslice []])) c=some (.cells [q1,.bool bk,.fslice [],.fslice [],.bool ac,.slice (ss.p.map aF),.slice (ss.q.map Tm.av),.int .i64 ss.quota,.int .i64 ss.used,.int .i64 ss.sent,.int .i64 ss.fin,.bool td,.fslice []]):=aA.aH _ _ _
   have g1:=(aA.aJ s1 (.cells [q1,.bool bk,.fslice [],.fslice [],.bool ac,.slice (ss.p.map aF),.slice (ss.q.map Tm.av),.int .i64 ss.quota,.int .i64 ss.used,.int .i64 ss.sent,.int .i64 ss.fin,.bool td,.fslice []]) hne.symm).trans g1
   generalize s1.aC c (.cells [q1,.bool bk,.fslice [],.fslice [],.bool ac,.slice (ss.p.map aF),.slice (ss.q.map Tm.av),.int .i64 ss.quota,.int .i64 ss.used,.int .i64 ss.sent,.int .i64 ss.fin,.bool td,.fslice []])=t1 at *
   refine d3.rT (w:=2) (l:=[]) (xs:=wt.map bO) lC pA pD rfl (by decide) (.inl ⟨rfl,rfl⟩) rfl (u9 wt) (by simp only[a8,aE];omega) (fun q2 s2 A2 K2 F2=>?_)
   rw[dL] at A2
   obtain⟨C2,f2,-⟩:=(C1.new 2).grow A2 K2 F2
   have e2:s2 c=some (.cells [q1,.bool bk,.fslice [],.fslice [],.bool ac,.slice (ss.p.map aF),.slice (ss.q.map Tm.av),.int .i64 ss.quota,.int .i64 ss.used,.int .i64 ss.sent,.int .i64 ss.fin,.bool td,.fslice []]):=(f2 c (by simp)).trans e1
   have g2:=(f2 b2 (by simp)).trans g1
   obtain⟨z21,z22,z23,z24,z25⟩:=A2.shape
   simp only[aG,e2,z24,z25,aB,seval,jX]
   have C2:=C2.aC (d:=c) (by simp) (.cells [q1,.bool bk,q2,.fslice [],.bool ac,.slice (ss.p.map aF),.slice (ss.q.map Tm.av),.int .i64 ss.quota,.int .i64 ss.used,.int .i64 ss.sent,.int .i64 ss.fin,.bool td,.fslice []])
   have e2:(s2.aC c (.cells [q1,.bool bk,q2,.fslice [],.bool ac,.slice (ss.p.map aF),.slice (ss.q.map Tm.av),.int .i64 ss.quota,.int .i64 ss.used,.int .i64 ss.sent,.int .i64 ss.fin,.bool td,.fslice []])) c=some (.cells [q1,.bool bk,q2,.fslice [],.bool ac,.slice (ss.p.map aF),.slice (ss.q.map Tm.av),.int .i64 ss.quota,.int .i64 ss.used,.int .i64 ss.sent,.int .i64 ss.fin,.bool td,.fslice []]):=aA.aH _ _ _
   have g2:=(aA.aJ s2 (.cells [q1,.bool bk,q2,.fslice [],.bool ac,.slice (ss.p.map aF),.slice (ss.q.map Tm.av),.int .i64 ss.quota,.int .i64 ss.used,.int .i64 ss.sent,.int .i64 ss.fin,.bool td,.fslice []]) hne.symm).trans g2
   generalize s2.aC c (.cells [q1,.bool bk,q2,.fslice [],.bool ac,.slice (ss.p.map aF),.slice (ss.q.map Tm.av),.int .i64 ss.quota,.int .i64 ss.used,.int .i64 ss.sent,.int .i64 ss.fin,.bool td,.fslice []])=t2 at *
   refine d3.rT (w:=2) (l:=[]) (xs:=ou.map bO) lC pA pD rfl (by decide) (.inl ⟨rfl,rfl⟩) rfl (u9 ou) (by simp only[a8,aE];omega) (fun q3 s3 A3 K3 F3=>?_)
   rw[dL] at A3
   obtain⟨C3,f3,-⟩:=(C2.new 2).grow A3 K3 F3
   have e3:s3 c=some (.cells [q1,.bool bk,q2,.fslice [],.bool ac,.slice (ss.p.map aF),.slice (ss.q.map Tm.av),.int .i64 ss.quota,.int .i64 ss.used,.int .i64 ss.sent,.int .i64 ss.fin,.bool td,.fslice []]):=(f3 c (by simp)).trans e2
   have g3:=(f3 b2 (by simp)).trans g2
   obtain⟨z31,z32,z33,z34,z35⟩:=A3.shape
   simp only[aG,e3,z34,z35,aB,seval,jX]
   have C3:=C3.aC (d:=c) (by simp) (.cells [q1,.bool bk,q2,.fslice [],.bool ac,.slice (ss.p.map aF),.slice (ss.q.map Tm.av),.int .i64 ss.quota,.int .i64 ss.used,.int .i64 ss.sent,.int .i64 ss.fin,.bool td,q3])
   have e3:(s3.aC c (.cells [q1,.bool bk,q2,.fslice [],.bool ac,.slice (ss.p.map aF),.slice (ss.q.map Tm.av),.int .i64 ss.quota,.int .i64 ss.used,.int .i64 ss.sent,.int .i64 ss.fin,.bool td,q3])) c=some (.cells [q1,.bool bk,q2,.fslice [],.bool ac,.slice (ss.p.map aF),.slice (ss.q.map Tm.av),.int .i64 ss.quota,.int .i64 ss.used,.int .i64 ss.sent,.int .i64 ss.fin,.bool td,q3]):=aA.aH _ _ _
   have g3:=(aA.aJ s3 (.cells [q1,.bool bk,q2,.fslice [],.bool ac,.slice (ss.p.map aF),.slice (ss.q.map Tm.av),.int .i64 ss.quota,.int .i64 ss.used,.int .i64 ss.sent,.int .i64 ss.fin,.bool td,q3]) hne.symm).trans g3
   generalize s3.aC c (.cells [q1,.bool bk,q2,.fslice [],.bool ac,.slice (ss.p.map aF),.slice (ss.q.map Tm.av),.int .i64 ss.quota,.int .i64 ss.used,.int .i64 ss.sent,.int .i64 ss.fin,.bool td,q3])=t3 at *
   refine dX (σ:=AV×aA) [1000000,3] [1,2,3] pr (fun i p=>dG st p.2 [b2,c] ((5,p.1,(pr.take i).map aF):: [(2,q3,ou.map bO),(2,q2,wt.map bO),(1,q1,r.map bJ)])∧p.2 c=some (.cells [q1,.bool bk,q2,p.1,.bool ac,.slice (ss.p.map aF),.slice (ss.q.map Tm.av),.int .i64 ss.quota,.int .i64 ss.used,.int .i64 ss.sent,.int .i64 ss.fin,.bool td,q3])∧p.2 b2=some (.cells [.fslice [],.bool false,.fslice [],.fslice [],.bool false,.fslice [],.fslice [],.int .i64 0,.int .i64 0,.int .i64 0,.int .i64 0,.bool false,.fslice []])) (fun i _=>[(4,.int .i64 i)]) (fun _ p=>p.2) (by decide +kernel)
    ⟨(.fslice [],t3),⟨C3.new 5,e3,g3⟩,aO.mk (by simp only[aB,↓aU,seval])⟩ (fun i x p hx hlt bP hdr hinv=>?_) (fun p hge hinv=>?_)
   case refine_2=>
    obtain⟨q4,s4⟩:=p
    obtain⟨C4,e4,g4⟩:=hinv
    simp only at C4 e4 g4
    rw[d6] at C4
    obtain⟨z41,z42,z43,z44,z45⟩:=(C4.acc _ (jP ..)).shape
    have fP:∀s5:aA,dG st s5 [b2,c] [(5,q4,pr.map aF),(2,q3,ou.map bO),(2,q2,wt.map bO),(1,q1,r.map bJ)]→Told s5 st (.agg [bZ r,.bool bk,aT wt,.slice (pr.map aF),.bool ac,.slice (ss.p.map aF),.slice (ss.q.map Tm.av),.int .i64 ss.quota,.int .i64 ss.used,.int .i64 ss.sent,.int .i64 ss.fin,.bool td,aT ou]) (.agg [q1,.bool bk,q2,q4,.bool ac,.slice (ss.p.map aF),.slice (ss.q.map Tm.av),.int .i64 ss.quota,.int .i64 ss.used,.int .i64 ss.sent,.int .i64 ss.fin,.bool td,q3]):=fun s5 D=>by
     have T:∀h,bQ h s5 h st:=fun h=>D.kO.step h
     have S:∀ {a:AV},a.bR=false→Told s5 st a a:=fun h=>Told.same T h
     have t1:=D.told (p:=(1,q1,r.map bJ)) (by simp) (uR r) (o5 r)
     have t2:=D.told (p:=(2,q2,wt.map bO)) (by simp) (qT wt) (nZ wt)
     have t3:=D.told (p:=(2,q3,ou.map bO)) (by simp) (qT ou) (nZ ou)
     have t4:=D.told (p:=(5,q4,pr.map aF)) (by simp) (H9 pr) (BO pr)
     exact Told.agg (.cons t1 (.cons (S rfl) (.cons t2 (.cons t4 (.cons (S rfl) (.cons (S rfl) (.cons (S rfl) (.cons (S rfl) (.cons (S rfl) (.cons (S rfl) (.cons (S rfl) (.cons (S rfl) (.cons t3 .nil)))))))))))))
    simp only[hge,aG,aE,e4,g4,z15,z25,z35,z45,aB,seval,jX]
    exact⟨_,st,(C4.aC (by simp) _).kO,fP _ (C4.aC (by simp) _),rfl,rfl⟩
   obtain⟨q4,s4⟩:=p
   obtain⟨C4,e4,g4⟩:=hinv
   simp only at C4 e4 g4
   have A4:=C4.acc _ (jP ..)
   obtain⟨z41,z42,z43,z44,z45⟩:=A4.shape
   have hw:=bC (n:=(i:Int)+1)
   have cU:((pr.take i).map aF).length=i:=by simp only[aE,dK];omega
   have htk:(pr.take (i+1)).map aF=(pr.take i).map aF++ [aF x]:=by rw[eS,hx];simp
   obtain⟨x1,x2,x3⟩:=k5 x (cQ hx)
   have hat:=bS (av:=aF) m9 hx (gM x)
   simp only[bP,aE,aB,seval,jX]
   refine wP [(0,1),(2,1),(4,1),(1,2),(3,2),(5,1),(6,2),(7,2),(8,1),(9,0),(10,1),(11,0)] [0,2,4,1,3,5,6,7,8,10] mixed ?_
   simp only[e4,z41,hat,nY,gM,aB,seval,jX]
   refine gG (BG x x1 x2 x3 _) ?_
   simp only[nY,gM,BL,aB,seval,jX]
   refine d3.append (w:=5) m9 BS BU rfl (by decide) A4 (gM x) (BM x) (by rw[cU];omega) (fun q5 s5 A5 K5 F5=>?_)
   rw[←htk] at A5
   obtain⟨C5,f5,-⟩:=C4.grow A5 K5 F5
   have e5:=(f5 c (by simp)).trans e4
   have g5:=(f5 b2 (by simp)).trans g4
   obtain⟨z51,z52,z53,z54,z55⟩:=A5.shape
   simp only[aG,e5,z54,z55,hw,aB,seval,jX]
   exact⟨(q5,s5.aC c (.cells [q1,.bool bk,q2,q5,.bool ac,.slice (ss.p.map aF),.slice (ss.q.map Tm.av),.int .i64 ss.quota,.int .i64 ss.used,.int .i64 ss.sent,.int .i64 ss.fin,.bool td,q3])),⟨C5.aC (by simp) _,aA.aH _ _ _,(aA.aJ _ _ hne.symm).trans g5⟩,aO.mk (by simp only[aB,seval])⟩
 · refine(h10 _).to ?_
   simp only[aG,aB,seval,jX]
   refine⟨d4,d4,?_⟩
   have hne:c≠b2:=by rintro rfl;rw[aA.aH] at hc;cases hc
   have C0:dG st ((st.aC b2 (.cells [.fslice [],.bool false,.fslice [],.fslice [],.bool false,.fslice [],.fslice [],.int .i64 0,.int .i64 0,.int .i64 0,.int .i64 0,.bool false,.fslice []])).aC c (.cells [.fslice [],.bool false,.fslice [],.fslice [],.bool ac,.slice (ss.p.map aF),.slice (ss.q.map Tm.av),.int .i64 ss.quota,.int .i64 ss.used,.int .i64 ss.sent,.int .i64 ss.fin,.bool td,.fslice []])) [b2,c] []:=FV hb2 hc
   have e0:((st.aC b2 (.cells [.fslice [],.bool false,.fslice [],.fslice [],.bool false,.fslice [],.fslice [],.int .i64 0,.int .i64 0,.int .i64 0,.int .i64 0,.bool false,.fslice []])).aC c (.cells [.fslice [],.bool false,.fslice [],.fslice [],.bool ac,.slice (ss.p.map aF),.slice (ss.q.map Tm.av),.int .i64 ss.quota,.int .i64 ss.used,.int .i64 ss.sent,.int .i64 ss.fin,.bool td,.fslice []])) c=some (.cells [.fslice [],.bool false,.fslice [],.fslice [],.bool ac,.slice (ss.p.map aF),.slice (ss.q.map Tm.av),.int .i64 ss.quota,.int .i64 ss.used,.int .i64 ss.sent,.int .i64 ss.fin,.bool td,.fslice []]):=aA.aH _ _ _
   have g0:((st.aC b2 (.cells [.fslice [],.bool false,.fslice [],.fslice [],.bool false,.fslice [],.fslice [],.int .i64 0,.int .i64 0,.int .i64 0,.int .i64 0,.bool false,.fslice []])).aC c (.cells [.fslice [],.bool false,.fslice [],.fslice [],.bool ac,.slice (ss.p.map aF),.slice (ss.q.map Tm.av),.int .i64 ss.quota,.int .i64 ss.used,.int .i64 ss.sent,.int .i64 ss.fin,.bool td,.fslice []])) b2=some (.cells [.fslice [],.bool false,.fslice [],.fslice [],.bool false,.fslice [],.fslice [],.int .i64 0,.int .i64 0,.int .i64 0,.int .i64 0,.bool false,.fslice []]):=by rw[aA.aJ _ _ hne.symm,aA.aH]
   generalize (st.aC b2 (.cells [.fslice [],.bool false,.fslice [],.fslice [],.bool false,.fslice [],.fslice [],.int .i64 0,.int .i64 0,.int .i64 0,.int .i64 0,.bool false,.fslice []])).aC c (.cells [.fslice [],.bool false,.fslice [],.fslice [],.bool ac,.slice (ss.p.map aF),.slice (ss.q.map Tm.av),.int .i64 ss.quota,.int .i64 ss.used,.int .i64 ss.sent,.int .i64 ss.fin,.bool td,.fslice []])=s0 at *
   refine wX [(0,1),(1,1),(2,1),(3,1),(5,1),(6,1),(7,1),(4,0),(8,1),(9,1),(10,2)] [0,1,2,3,5,6,7,8,9] eF mixed rfl d4 ?_
   simp only[aB,seval,jX]
   refine d3.rT (w:=1) (l:=[]) (xs:=r.map bJ) iK qN qP rfl (by decide) (.inl ⟨rfl,rfl⟩) rfl (sZ r) (by simp only[a8,aE];omega) (fun q1 s1 A1 K1 F1=>?_)
   rw[dL] at A1
   obtain⟨C1,f1,-⟩:=(C0.new 1).grow A1 K1 F1
   have e1:s1 c=some (.cells [.fslice [],.bool false,.fslice [],.fslice [],.bool ac,.slice (ss.p.map aF),.slice (ss.q.map Tm.av),.int .i64 ss.quota,.int .i64 ss.used,.int .i64 ss.sent,.int .i64 ss.fin,.bool td,.fslice []]):=(f1 c (by simp)).trans e0
   have g1:=(f1 b2 (by simp)).trans g0
   obtain⟨z11,z12,z13,z14,z15⟩:=A1.shape
   simp only[aG,e1,z13,z14,z15,aB,seval,jX]
   refine⟨d4,?_⟩
   have C1:=C1.aC (d:=c) (by simp) (.cells [q1,.bool bk,.fslice [],.fslice [],.bool ac,.slice (ss.p.map aF),.slice (ss.q.map Tm.av),.int .i64 ss.quota,.int .i64 ss.used,.int .i64 ss.sent,.int .i64 ss.fin,.bool td,.fslice []])
   have e1:(s1.aC c (.cells [q1,.bool bk,.fslice [],.fslice [],.bool ac,.slice (ss.p.map aF),.slice (ss.q.map Tm.av),.int .i64 ss.quota,.int .i64 ss.used,.int .i64 ss.sent,.int .i64 ss.fin,.bool td,.fslice []])) c=some (.cells [q1,.bool bk,.fslice [],.fslice [],.bool ac,.slice (ss.p.map aF),.slice (ss.q.map Tm.av),.int .i64 ss.quota,.int .i64 ss.used,.int .i64 ss.sent,.int .i64 ss.fin,.bool td,.fslice []]):=aA.aH _ _ _
   have g1:=(aA.aJ s1 (.cells [q1,.bool bk,.fslice [],.fslice [],.bool ac,.slice (ss.p.map aF),.slice (ss.q.map Tm.av),.int .i64 ss.quota,.int .i64 ss.used,.int .i64 ss.sent,.int .i64 ss.fin,.bool td,.fslice []]) hne.symm).trans g1
   generalize s1.aC c (.cells [q1,.bool bk,.fslice [],.fslice [],.bool ac,.slice (ss.p.map aF),.slice (ss.q.map Tm.av),.int .i64 ss.quota,.int .i64 ss.used,.int .i64 ss.sent,.int .i64 ss.fin,.bool td,.fslice []])=t1 at *
   refine d3.rT (w:=2) (l:=[]) (xs:=wt.map bO) lC pA pD rfl (by decide) (.inl ⟨rfl,rfl⟩) rfl (u9 wt) (by simp only[a8,aE];omega) (fun q2 s2 A2 K2 F2=>?_)
   rw[dL] at A2
   obtain⟨C2,f2,-⟩:=(C1.new 2).grow A2 K2 F2
   have e2:s2 c=some (.cells [q1,.bool bk,.fslice [],.fslice [],.bool ac,.slice (ss.p.map aF),.slice (ss.q.map Tm.av),.int .i64 ss.quota,.int .i64 ss.used,.int .i64 ss.sent,.int .i64 ss.fin,.bool td,.fslice []]):=(f2 c (by simp)).trans e1
   have g2:=(f2 b2 (by simp)).trans g1
   obtain⟨z21,z22,z23,z24,z25⟩:=A2.shape
   simp only[aG,e2,z24,z25,aB,seval,jX]
   have C2:=C2.aC (d:=c) (by simp) (.cells [q1,.bool bk,q2,.fslice [],.bool ac,.slice (ss.p.map aF),.slice (ss.q.map Tm.av),.int .i64 ss.quota,.int .i64 ss.used,.int .i64 ss.sent,.int .i64 ss.fin,.bool td,.fslice []])
   have e2:(s2.aC c (.cells [q1,.bool bk,q2,.fslice [],.bool ac,.slice (ss.p.map aF),.slice (ss.q.map Tm.av),.int .i64 ss.quota,.int .i64 ss.used,.int .i64 ss.sent,.int .i64 ss.fin,.bool td,.fslice []])) c=some (.cells [q1,.bool bk,q2,.fslice [],.bool ac,.slice (ss.p.map aF),.slice (ss.q.map Tm.av),.int .i64 ss.quota,.int .i64 ss.used,.int .i64 ss.sent,.int .i64 ss.fin,.bool td,.fslice []]):=aA.aH _ _ _
   have g2:=(aA.aJ s2 (.cells [q1,.bool bk,q2,.fslice [],.bool ac,.slice (ss.p.map aF),.slice (ss.q.map Tm.av),.int .i64 ss.quota,.int .i64 ss.used,.int .i64 ss.sent,.int .i64 ss.fin,.bool td,.fslice []]) hne.symm).trans g2
   generalize s2.aC c (.cells [q1,.bool bk,q2,.fslice [],.bool ac,.slice (ss.p.map aF),.slice (ss.q.map Tm.av),.int .i64 ss.quota,.int .i64 ss.used,.int .i64 ss.sent,.int .i64 ss.fin,.bool td,.fslice []])=t2 at *
   refine d3.rT (w:=2) (l:=[]) (xs:=ou.map bO) lC pA pD rfl (by decide) (.inl ⟨rfl,rfl⟩) rfl (u9 ou) (by simp only[a8,aE];omega) (fun q3 s3 A3 K3 F3=>?_)
   rw[dL] at A3
   obtain⟨C3,f3,-⟩:=(C2.new 2).grow A3 K3 F3
   have e3:s3 c=some (.cells [q1,.bool bk,q2,.fslice [],.bool ac,.slice (ss.p.map aF),.slice (ss.q.map Tm.av),.int .i64 ss.quota,.int .i64 ss.used,.int .i64 ss.sent,.int .i64 ss.fin,.bool td,.fslice []]):=(f3 c (by simp)).trans e2
   have g3:=(f3 b2 (by simp)).trans g2
   obtain⟨z31,z32,z33,z34,z35⟩:=A3.shape
   simp only[aG,e3,z34,z35,aB,seval,jX]
   have C3:=C3.aC (d:=c) (by simp) (.cells [q1,.bool bk,q2,.fslice [],.bool ac,.slice (ss.p.map aF),.slice (ss.q.map Tm.av),.int .i64 ss.quota,.int .i64 ss.used,.int .i64 ss.sent,.int .i64 ss.fin,.bool td,q3])
   have e3:(s3.aC c (.cells [q1,.bool bk,q2,.fslice [],.bool ac,.slice (ss.p.map aF),.slice (ss.q.map Tm.av),.int .i64 ss.quota,.int .i64 ss.used,.int .i64 ss.sent,.int .i64 ss.fin,.bool td,q3])) c=some (.cells [q1,.bool bk,q2,.fslice [],.bool ac,.slice (ss.p.map aF),.slice (ss.q.map Tm.av),.int .i64 ss.quota,.int .i64 ss.used,.int .i64 ss.sent,.int .i64 ss.fin,.bool td,q3]):=aA.aH _ _ _
   have g3:=(aA.aJ s3 (.cells [q1,.bool bk,q2,.fslice [],.bool ac,.slice (ss.p.map aF),.slice (ss.q.map Tm.av),.int .i64 ss.quota,.int .i64 ss.used,.int .i64 ss.sent,.int .i64 ss.fin,.bool td,q3]) hne.symm).trans g3
   generalize s3.aC c (.cells [q1,.bool bk,q2,.fslice [],.bool ac,.slice (ss.p.map aF),.slice (ss.q.map Tm.av),.int .i64 ss.quota,.int .i64 ss.used,.int .i64 ss.sent,.int .i64 ss.fin,.bool td,q3])=t3 at *
   refine dX (σ:=AV×aA) [1000000,3] [1,2,3] pr (fun i p=>dG st p.2 [b2,c] ((5,p.1,(pr.take i).map aF):: [(2,q3,ou.map bO),(2,q2,wt.map bO),(1,q1,r.map bJ)])∧p.2 c=some (.cells [q1,.bool bk,q2,p.1,.bool ac,.slice (ss.p.map aF),.slice (ss.q.map Tm.av),.int .i64 ss.quota,.int .i64 ss.used,.int .i64 ss.sent,.int .i64 ss.fin,.bool td,q3])∧p.2 b2=some (.cells [.fslice [],.bool false,.fslice [],.fslice [],.bool false,.fslice [],.fslice [],.int .i64 0,.int .i64 0,.int .i64 0,.int .i64 0,.bool false,.fslice []])) (fun i _=>[(4,.int .i64 i)]) (fun _ p=>p.2) (by decide +kernel)
    ⟨(.fslice [],t3),⟨C3.new 5,e3,g3⟩,aO.mk (by simp only[aB,↓aU,seval])⟩ (fun i x p hx hlt bP hdr hinv=>?_) (fun p hge hinv=>?_)
   case refine_2=>
    obtain⟨q4,s4⟩:=p
    obtain⟨C4,e4,g4⟩:=hinv
    simp only at C4 e4 g4
    rw[d6] at C4
    obtain⟨z41,z42,z43,z44,z45⟩:=(C4.acc _ (jP ..)).shape
    have fP:∀s5:aA,dG st s5 [b2,c] [(5,q4,pr.map aF),(2,q3,ou.map bO),(2,q2,wt.map bO),(1,q1,r.map bJ)]→Told s5 st (.agg [bZ r,.bool bk,aT wt,.slice (pr.map aF),.bool ac,.slice (ss.p.map aF),.slice (ss.q.map Tm.av),.int .i64 ss.quota,.int .i64 ss.used,.int .i64 ss.sent,.int .i64 ss.fin,.bool td,aT ou]) (.agg [q1,.bool bk,q2,q4,.bool ac,.slice (ss.p.map aF),.slice (ss.q.map Tm.av),.int .i64 ss.quota,.int .i64 ss.used,.int .i64 ss.sent,.int .i64 ss.fin,.bool td,q3]):=fun s5 D=>by
     have T:∀h,bQ h s5 h st:=fun h=>D.kO.step h
     have S:∀ {a:AV},a.bR=false→Told s5 st a a:=fun h=>Told.same T h
     have t1:=D.told (p:=(1,q1,r.map bJ)) (by simp) (uR r) (o5 r)
     have t2:=D.told (p:=(2,q2,wt.map bO)) (by simp) (qT wt) (nZ wt)
     have t3:=D.told (p:=(2,q3,ou.map bO)) (by simp) (qT ou) (nZ ou)
     have t4:=D.told (p:=(5,q4,pr.map aF)) (by simp) (H9 pr) (BO pr)
     exact Told.agg (.cons t1 (.cons (S rfl) (.cons t2 (.cons t4 (.cons (S rfl) (.cons (S rfl) (.cons (S rfl) (.cons (S rfl) (.cons (S rfl) (.cons (S rfl) (.cons (S rfl) (.cons (S rfl) (.cons t3 .nil)))))))))))))
    simp only[hge,aG,aE,e4,g4,z15,z25,z35,z45,aB,seval,jX]
    exact⟨_,st,(C4.aC (by simp) _).kO,fP _ (C4.aC (by simp) _),rfl,rfl⟩
   obtain⟨q4,s4⟩:=p
   obtain⟨C4,e4,g4⟩:=hinv
   simp only at C4 e4 g4
   have A4:=C4.acc _ (jP ..)
   obtain⟨z41,z42,z43,z44,z45⟩:=A4.shape
   have hw:=bC (n:=(i:Int)+1)
   have cU:((pr.take i).map aF).length=i:=by simp only[aE,dK];omega
   have htk:(pr.take (i+1)).map aF=(pr.take i).map aF++ [aF x]:=by rw[eS,hx];simp
   obtain⟨x1,x2,x3⟩:=k5 x (cQ hx)
   have hat:=bS (av:=aF) m9 hx (gM x)
   simp only[bP,aE,aB,seval,jX]
   refine wP [(0,1),(2,1),(4,1),(1,2),(3,2),(5,1),(6,2),(7,2),(8,1),(9,0),(10,1),(11,0)] [0,2,4,1,3,5,6,7,8,10] mixed ?_
   simp only[e4,z41,hat,nY,gM,aB,seval,jX]
   refine gG (BG x x1 x2 x3 _) ?_
   simp only[nY,gM,BL,aB,seval,jX]
   refine d3.append (w:=5) m9 BS BU rfl (by decide) A4 (gM x) (BM x) (by rw[cU];omega) (fun q5 s5 A5 K5 F5=>?_)
   rw[←htk] at A5
   obtain⟨C5,f5,-⟩:=C4.grow A5 K5 F5
   have e5:=(f5 c (by simp)).trans e4
   have g5:=(f5 b2 (by simp)).trans g4
   obtain⟨z51,z52,z53,z54,z55⟩:=A5.shape
   simp only[aG,e5,z54,z55,hw,aB,seval,jX]
   exact⟨(q5,s5.aC c (.cells [q1,.bool bk,q2,q5,.bool ac,.slice (ss.p.map aF),.slice (ss.q.map Tm.av),.int .i64 ss.quota,.int .i64 ss.used,.int .i64 ss.sent,.int .i64 ss.fin,.bool td,q3])),⟨C5.aC (by simp) _,aA.aH _ _ _,(aA.aJ _ _ hne.symm).trans g5⟩,aO.mk (by simp only[aB,seval])⟩
abbrev DB:=zi aS (zi nN (zi mF kI))
theorem MU(s:Sv)(hlen:s.cs.length≤1048576)(hb:∀c∈s.cs,o7 c)(st:aA):aD prog 42 [dZ s] st (fun r st'=>∃q,r=.agg [q,.int .i64 s.quota]∧LO st 13 q (s.cs.map bF) st'):=by
 obtain⟨cs,qu⟩:=s
 simp only at hb hlen
 simp only[dZ]
 refine aD.o9 ?_
 refine wF [1000000,3] 1 func42 ntmps42 rfl rfl ?_
 intro _
 simp only[aG,aB,↓aU,seval,DB]
 intro b2 hb2 c hc
 have hne:c≠b2:=by rintro rfl;rw[aA.aH] at hc;cases hc
 have C0:dG st ((st.aC b2 (.cells [.fslice [],.int .i64 0])).aC c (.cells [.fslice [],.int .i64 qu])) [b2,c] []:=FV hb2 hc
 have e0:((st.aC b2 (.cells [.fslice [],.int .i64 0])).aC c (.cells [.fslice [],.int .i64 qu])) c=some (.cells [.fslice [],.int .i64 qu]):=aA.aH _ _ _
 have g0:((st.aC b2 (.cells [.fslice [],.int .i64 0])).aC c (.cells [.fslice [],.int .i64 qu])) b2=some (.cells [.fslice [],.int .i64 0]):=by rw[aA.aJ _ _ hne.symm,aA.aH]
 generalize (st.aC b2 (.cells [.fslice [],.int .i64 0])).aC c (.cells [.fslice [],.int .i64 qu])=s0 at *
 refine dX (σ:=AV×aA) [1000000,3] [1,2,3] cs (fun i p=>dG st p.2 [b2,c] [(13,p.1,(cs.take i).map bF)]∧p.2 c=some (.cells [p.1,.int .i64 qu])∧p.2 b2=some (.cells [.fslice [],.int .i64 0])) (fun i _=>[(4,.int .i64 i)]) (fun _ p=>p.2) (by decide +kernel)
  ⟨(.fslice [],s0),⟨C0.new 13,e0,g0⟩,aO.mk (by simp only[aB,↓aU,seval])⟩ (fun i x p hx hlt bP hdr hinv=>?_) (fun p hge hinv=>?_)
 case refine_2=>
  obtain⟨q4,s4⟩:=p
  obtain⟨C4,e4,g4⟩:=hinv
  simp only at C4 e4 g4
  rw[d6] at C4
  obtain⟨z41,z42,z43,z44,z45⟩:=(C4.acc _ (jP ..)).shape
  simp only[hge,aG,aE,e4,g4,z45,aB,seval,DB]
  obtain⟨s2,d2,G⟩:=(C4.aC (d:=b2) (by simp) (.cells [q4,.int .i64 qu])).aWN
  exact⟨s2,d2,q4,rfl,G⟩
 obtain⟨q4,s4⟩:=p
 obtain⟨C4,e4,g4⟩:=hinv
 simp only at C4 e4 g4
 have A4:=C4.acc _ (jP ..)
 obtain⟨z41,z42,z43,z44,z45⟩:=A4.shape
 have hw:=bC (n:=(i:Int)+1)
 have cU:((cs.take i).map bF).length=i:=by simp only[aE,dK];omega
 have htk:(cs.take (i+1)).map bF=(cs.take i).map bF++ [bF x]:=by rw[eS,hx];simp
 have hxs:=hb x (cQ hx)
 have hat:=bS (av:=bF) pB hx (mY x)
 simp only[bP,aE,aB,seval,DB]
 refine wP [(0,1),(2,1),(4,1),(1,2),(3,2),(5,1),(6,2),(7,2),(8,1),(9,0),(10,1),(11,0)] [0,2,4,1,3,5,6,7,8,10] mixed ?_
 simp only[e4,z41,hat,BP,mY,aB,seval,DB]
 refine gG (aP2 x hxs _) ?_
 simp only[BP,mY,UR,aB,seval,DB]
 refine d3.append (w:=13) pB NL NP rfl (by decide) A4 (mY x) (US x) (by rw[cU];omega) (fun q5 s5 A5 K5 F5=>?_)
 rw[←htk] at A5
 obtain⟨C5,f5,-⟩:=C4.grow A5 K5 F5
 have e5:=(f5 c (by simp)).trans e4
 have g5:=(f5 b2 (by simp)).trans g4
 obtain⟨z51,z52,z53,z54,z55⟩:=A5.shape
 simp only[aG,e5,z54,z55,hw,aB,seval,DB]
 exact⟨(q5,s5.aC c (.cells [q5,.int .i64 qu])),⟨C5.aC (by simp) _,aA.aH _ _ _,(aA.aJ _ _ hne.symm).trans g5⟩,aO.mk (by simp only[aB,seval])⟩
abbrev tU:=zi aS (zi bV (zi kH (zi nN (zi mF (zi iE (zi rE kI))))))
set_option maxHeartbeats 1000000 in
theorem aRT(s:Sv)(k:Int)(x:List Bt)(st:aA)(h0:s.cs.length≤1048576)(hb:∀c∈s.cs,c.rest.length≤2000000∧o7 c)(hx:x.length≤1048576):aD prog 66 [dZ s,.int .i64 k,bZ x] st (fun r st'=>r=dZ (uZ s k x)∧st'=st):=by
 have hcp:=fun st=>MU s h0 (fun c hc=>(hb c hc).2) st
 have his:=fun st=>aP7 s k st
 have hri:=fun st=>MV s st
 have hno:=fun h=>aV1 (s:=s) (k:=k) (x:=x) h
 have JF:=fun n c hc h=>aV2 (s:=s) (k:=n) (x:=x) (c:=c) hc h
 obtain⟨cs,qu⟩:=s
 simp only at hb JF h0
 simp only[dZ] at hcp his hri
 generalize hok:lT ⟨cs,qu⟩=ok at *
 simp only[] at hno
 unfold dZ
 refine aD.told ?_
 refine wF [1000000,7,8] 3 func66 ntmps66 rfl rfl ?_
 intro _
 simp only[aB,seval,tU]
 intro b6 h6
 refine(hcp _).mono ?_
 rintro _ s1 ⟨q,rfl,G⟩
 obtain⟨C1,f1,-⟩:=(dG.one h6 _).aHQ G
 have e6:=(f1 b6 (by simp)).trans (aA.aH _ _ _)
 have A1:d3 s1 13 q (cs.map bF):=C1.acc _ (jP ..)
 obtain⟨z11,z12,z13,z14,z15⟩:=A1.shape
 simp only[aG,z15,aB,↓aU,seval,tU]
 intro b7 h7
 have C2:=C1.more h7 (.cells [q,.int .i64 qu])
 have e7:(s1.aC b7 (.cells [q,.int .i64 qu])) b7=some (.cells [q,.int .i64 qu]):=aA.aH _ _ _
 have n76:b6≠b7:=by rintro rfl;rw[e6] at h7;cases h7
 have e6':=(aA.aJ s1 (.cells [q,.int .i64 qu]) n76).trans e6
 generalize s1.aC b7 (.cells [q,.int .i64 qu])=s2 at *
 have aGE:∀s5:aA,dG st s5 [b7,b6] [(13,q,cs.map bF)]→Told s5 st (.agg [.slice (cs.map bF),.int .i64 qu]) (.agg [q,.int .i64 qu]):=fun s5 D=>
  Told.agg (.cons (D.told (p:=(13,q,cs.map bF)) (by simp) (E2 cs) (uW cs)) (.cons (Told.same (fun h=>D.kO.step h) rfl) .nil))
 refine(his _).to ?_
 cases hI:(decide (0≤k)&&decide (k<(cs.length:Int))) with
 | false=>
  simp only[eK,aG,e6',e7,z15,aB,seval,tU]
  rw[hno (by rw[hI];simp)]
  exact⟨_,st,(C2.aC (by simp) _).kO,aGE _ (C2.aC (by simp) _),rfl,rfl⟩
 | true=>
  simp only[eA,aB,seval,tU]
  refine(hri _).to ?_
  cases ok with
  | false=>
   simp only[eK,aG,e6',e7,z15,aB,seval,tU]
   rw[hno (by simp)]
   exact⟨_,st,(C2.aC (by simp) _).kO,aGE _ (C2.aC (by simp) _),rfl,rfl⟩
  | true=>
   simp only[bD,bA] at hI
   obtain⟨n,rfl⟩:∃n:Nat,k=n:=⟨k.toNat,by omega⟩
   obtain⟨c,hc⟩:∃c,cs[n]?=some c:=⟨_,eL (by omega)⟩
   rw[JF n c hc rfl]
   obtain⟨hrl,hcz⟩:=hb c (cQ hc)
   obtain⟨b,X,hq,hqb,eb,hA⟩:=d3.split (w:=13) (q:=q) (l:=cs.map bF) (C2.acc _ (jP ..)) (uW cs) (k:=n) (e:=bF c) (by rw[lK,hc];try rfl)
   subst hq
   rw[aE] at *
   have hat:=B3 (P:=prog) (b:=b) (len:=cs.length) (w:=13) (i:=n) pB (by omega)
   have hfb:=aV3 c.rest c.brk x
   have hfd:=fun st=>aRS c.rest c.brk x st (by omega)
   have hfc:BV c x= { c with rest:=(lD c.rest c.brk x).1.1,brk:=(lD c.rest c.brk x).1.2,wait:=c.wait++(lD c.rest c.brk x).2 }:=rfl
   rw[hfc]
   have hwl:=hcz.2.1
   generalize lD c.rest c.brk x=T at *
   obtain⟨⟨r',bk'⟩,l'⟩:=T
   simp only[AB] at hfd hfb ⊢
   have pO:∀y:cP,(cs.set n y).map bF=(cs.map bF).take n++bF y::(cs.map bF).drop (n+1):=fun y=>by
    rw[List.map_set,HB,aN (by rw[aE];omega)]
   have jA:∀e∈(cs.map bF).take n,e.bR=false:=fun e he=>E2 cs e (lY he)
   have jB:∀e∈(cs.map bF).drop (n+1),e.bR=false:=fun e he=>E2 cs e (List.mem_of_mem_drop he)
   have aGI:∀y:cP,((cs.set n y).map bF).length=cs.length:=fun y=>by rw[aE,List.length_set]
   obtain⟨r,bk,wt,pr,ac,ss,td,ou⟩:=c
   simp only[o8] at hfd hfb hwl hrl pO aGI ⊢
   replace eb:s2 b=some (.cells (((cs.map bF).take n).flatMap AV.cells++ [bZ r,.bool bk,aT wt,.slice (pr.map aF),.bool ac,.slice (ss.p.map aF),.slice (ss.q.map Tm.av),.int .i64 ss.quota,.int .i64 ss.used,.int .i64 ss.sent,.int .i64 ss.fin,.bool td,aT ou]++(((cs.map bF).drop (n+1)).flatMap AV.cells++X))):=eb
   have hAB:∀C':List AV,(((cs.map bF).take n)++ .agg C'::((cs.map bF).drop (n+1))).flatMap AV.cells++X=((cs.map bF).take n).flatMap AV.cells++C'++(((cs.map bF).drop (n+1)).flatMap AV.cells++X):=fun C'=>by simp [AV.cells]
   generalize hLA:((cs.map bF).take n).flatMap AV.cells=A at *
   generalize hLB:((cs.map bF).drop (n+1)).flatMap AV.cells++X=B at *
   have p3:∀C':List AV,C'.length=13→(aG (A++ [bZ r,.bool bk,aT wt,.slice (pr.map aF),.bool ac,.slice (ss.p.map aF),.slice (ss.q.map Tm.av),.int .i64 ss.quota,.int .i64 ss.used,.int .i64 ss.sent,.int .i64 ss.fin,.bool td,aT ou]++B) (n*13) C'=A++C'++B∧n*13+13≤(A++ [bZ r,.bool bk,aT wt,.slice (pr.map aF),.bool ac,.slice (ss.p.map aF),.slice (ss.q.map Tm.av),.int .i64 ss.quota,.int .i64 ss.used,.int .i64 ss.sent,.int .i64 ss.fin,.bool td,aT ou]++B).length):=fun C' h=>PF hA rfl h
   have p2:=(p3 [bZ r,.bool bk,aT wt,.slice (pr.map aF),.bool ac,.slice (ss.p.map aF),.slice (ss.q.map Tm.av),.int .i64 ss.quota,.int .i64 ss.used,.int .i64 ss.sent,.int .i64 ss.fin,.bool td,aT ou] rfl).2
   have p4:((A++ [bZ r,.bool bk,aT wt,.slice (pr.map aF),.bool ac,.slice (ss.p.map aF),.slice (ss.q.map Tm.av),.int .i64 ss.quota,.int .i64 ss.used,.int .i64 ss.sent,.int .i64 ss.fin,.bool td,aT ou]++B).drop (n*13)).take 13= [bZ r,.bool bk,aT wt,.slice (pr.map aF),.bool ac,.slice (ss.p.map aF),.slice (ss.q.map Tm.av),.int .i64 ss.quota,.int .i64 ss.used,.int .i64 ss.sent,.int .i64 ss.fin,.bool td,aT ou]:=by rw[p9,List.drop_left' hA];try rfl
   have nb7:b≠b7:=fun e=>(C2.fresh _ (jP ..) b (by simp [cW])).2 (by simp [e])
   have nb6:b≠b6:=fun e=>(C2.fresh _ (jP ..) b (by simp [cW])).2 (by simp [e])
   have JE:st b=none:=(C2.fresh _ (jP ..) b (by simp [cW])).1
   simp only[eA,aG,e7,z11,hat,eb,p2,p4,aB,↓aU,seval,tU]
   intro b8 h8
   have C3:=C2.more h8 (.cells [bZ r,.bool bk,aT wt,.slice (pr.map aF),.bool ac,.slice (ss.p.map aF),.slice (ss.q.map Tm.av),.int .i64 ss.quota,.int .i64 ss.used,.int .i64 ss.sent,.int .i64 ss.fin,.bool td,aT ou])
   have m6:b6≠b8:=by rintro rfl;rw[e6'] at h8;cases h8
   have m7:b7≠b8:=by rintro rfl;rw[e7] at h8;cases h8
   have mb:b≠b8:=by rintro rfl;rw[eb] at h8;cases h8
   have e63:=(aA.aJ s2 (.cells [bZ r,.bool bk,aT wt,.slice (pr.map aF),.bool ac,.slice (ss.p.map aF),.slice (ss.q.map Tm.av),.int .i64 ss.quota,.int .i64 ss.used,.int .i64 ss.sent,.int .i64 ss.fin,.bool td,aT ou]) m6).trans e6'
   have e73:=(aA.aJ s2 (.cells [bZ r,.bool bk,aT wt,.slice (pr.map aF),.bool ac,.slice (ss.p.map aF),.slice (ss.q.map Tm.av),.int .i64 ss.quota,.int .i64 ss.used,.int .i64 ss.sent,.int .i64 ss.fin,.bool td,aT ou]) m7).trans e7
   have eb3:=(aA.aJ s2 (.cells [bZ r,.bool bk,aT wt,.slice (pr.map aF),.bool ac,.slice (ss.p.map aF),.slice (ss.q.map Tm.av),.int .i64 ss.quota,.int .i64 ss.used,.int .i64 ss.sent,.int .i64 ss.fin,.bool td,aT ou]) mb).trans eb
   have e83:(s2.aC b8 (.cells [bZ r,.bool bk,aT wt,.slice (pr.map aF),.bool ac,.slice (ss.p.map aF),.slice (ss.q.map Tm.av),.int .i64 ss.quota,.int .i64 ss.used,.int .i64 ss.sent,.int .i64 ss.fin,.bool td,aT ou])) b8=some (.cells [bZ r,.bool bk,aT wt,.slice (pr.map aF),.bool ac,.slice (ss.p.map aF),.slice (ss.q.map Tm.av),.int .i64 ss.quota,.int .i64 ss.used,.int .i64 ss.sent,.int .i64 ss.fin,.bool td,aT ou]):=aA.aH _ _ _
   generalize s2.aC b8 (.cells [bZ r,.bool bk,aT wt,.slice (pr.map aF),.bool ac,.slice (ss.p.map aF),.slice (ss.q.map Tm.av),.int .i64 ss.quota,.int .i64 ss.used,.int .i64 ss.sent,.int .i64 ss.fin,.bool td,aT ou])=s3 at *
   refine(hfd _).to ?_
   simp only[aG,e83,aB,↓aU,seval,tU]
   have C4:=C3.aC (d:=b8) (by simp) (.cells [bZ r',.bool bk',aT wt,.slice (pr.map aF),.bool ac,.slice (ss.p.map aF),.slice (ss.q.map Tm.av),.int .i64 ss.quota,.int .i64 ss.used,.int .i64 ss.sent,.int .i64 ss.fin,.bool td,aT ou])
   have e64:=(aA.aJ s3 (.cells [bZ r',.bool bk',aT wt,.slice (pr.map aF),.bool ac,.slice (ss.p.map aF),.slice (ss.q.map Tm.av),.int .i64 ss.quota,.int .i64 ss.used,.int .i64 ss.sent,.int .i64 ss.fin,.bool td,aT ou]) m6).trans e63
   have e74:=(aA.aJ s3 (.cells [bZ r',.bool bk',aT wt,.slice (pr.map aF),.bool ac,.slice (ss.p.map aF),.slice (ss.q.map Tm.av),.int .i64 ss.quota,.int .i64 ss.used,.int .i64 ss.sent,.int .i64 ss.fin,.bool td,aT ou]) m7).trans e73
   have eb4:=(aA.aJ s3 (.cells [bZ r',.bool bk',aT wt,.slice (pr.map aF),.bool ac,.slice (ss.p.map aF),.slice (ss.q.map Tm.av),.int .i64 ss.quota,.int .i64 ss.used,.int .i64 ss.sent,.int .i64 ss.fin,.bool td,aT ou]) mb).trans eb3
   have e84:(s3.aC b8 (.cells [bZ r',.bool bk',aT wt,.slice (pr.map aF),.bool ac,.slice (ss.p.map aF),.slice (ss.q.map Tm.av),.int .i64 ss.quota,.int .i64 ss.used,.int .i64 ss.sent,.int .i64 ss.fin,.bool td,aT ou])) b8=some (.cells [bZ r',.bool bk',aT wt,.slice (pr.map aF),.bool ac,.slice (ss.p.map aF),.slice (ss.q.map Tm.av),.int .i64 ss.quota,.int .i64 ss.used,.int .i64 ss.sent,.int .i64 ss.fin,.bool td,aT ou]):=aA.aH _ _ _
   generalize s3.aC b8 (.cells [bZ r',.bool bk',aT wt,.slice (pr.map aF),.bool ac,.slice (ss.p.map aF),.slice (ss.q.map Tm.av),.int .i64 ss.quota,.int .i64 ss.used,.int .i64 ss.sent,.int .i64 ss.fin,.bool td,aT ou])=s4 at *
   refine d3.rT (w:=2) (l:=[]) (xs:=wt.map bO) lC pA pD rfl (by decide) (.inl ⟨rfl,rfl⟩) rfl (u9 wt) (by simp only[a8,aE];omega) (fun q5 s5 A5 K5 F5=>?_)
   rw[dL] at A5
   obtain⟨C5,f5,k5⟩:=(C4.new 2).grow A5 K5 F5
   have e65:=(f5 b6 (by simp)).trans e64
   have e75:=(f5 b7 (by simp)).trans e74
   have e85:=(f5 b8 (by simp)).trans e84
   have eb5:=(k5 _ (jP ..) b (by simp [cW])).trans eb4
   obtain⟨z51,z52,z53,z54,z55⟩:=A5.shape
   simp only[aB,seval]
   refine d3.rT (w:=2) (l:=wt.map bO) (xs:=l'.map bO) lC pA pD rfl (by decide) A5 rfl (u9 l') (by simp only[aE];omega) (fun q6 s6 A6 K6 F6=>?_)
   rw[←rM] at A6
   obtain⟨C6,f6,k6⟩:=C5.grow A6 K6 F6
   have e66:=(f6 b6 (by simp)).trans e65
   have e76:=(f6 b7 (by simp)).trans e75
   have e86:=(f6 b8 (by simp)).trans e85
   have eb6:=(k6 _ (jP ..) b (by simp [cW])).trans eb5
   obtain⟨z61,z62,z63,z64,z65⟩:=A6.shape
   simp only[aG,e86,z64,z65,aB,seval,tU]
   have C7:=C6.aC (d:=b8) (by simp) (.cells [bZ r',.bool bk',q6,.slice (pr.map aF),.bool ac,.slice (ss.p.map aF),.slice (ss.q.map Tm.av),.int .i64 ss.quota,.int .i64 ss.used,.int .i64 ss.sent,.int .i64 ss.fin,.bool td,aT ou])
   have e67:=(aA.aJ s6 (.cells [bZ r',.bool bk',q6,.slice (pr.map aF),.bool ac,.slice (ss.p.map aF),.slice (ss.q.map Tm.av),.int .i64 ss.quota,.int .i64 ss.used,.int .i64 ss.sent,.int .i64 ss.fin,.bool td,aT ou]) m6).trans e66
   have e77:=(aA.aJ s6 (.cells [bZ r',.bool bk',q6,.slice (pr.map aF),.bool ac,.slice (ss.p.map aF),.slice (ss.q.map Tm.av),.int .i64 ss.quota,.int .i64 ss.used,.int .i64 ss.sent,.int .i64 ss.fin,.bool td,aT ou]) m7).trans e76
   have eb7:=(aA.aJ s6 (.cells [bZ r',.bool bk',q6,.slice (pr.map aF),.bool ac,.slice (ss.p.map aF),.slice (ss.q.map Tm.av),.int .i64 ss.quota,.int .i64 ss.used,.int .i64 ss.sent,.int .i64 ss.fin,.bool td,aT ou]) mb).trans eb6
   have e87:(s6.aC b8 (.cells [bZ r',.bool bk',q6,.slice (pr.map aF),.bool ac,.slice (ss.p.map aF),.slice (ss.q.map Tm.av),.int .i64 ss.quota,.int .i64 ss.used,.int .i64 ss.sent,.int .i64 ss.fin,.bool td,aT ou])) b8=some (.cells [bZ r',.bool bk',q6,.slice (pr.map aF),.bool ac,.slice (ss.p.map aF),.slice (ss.q.map Tm.av),.int .i64 ss.quota,.int .i64 ss.used,.int .i64 ss.sent,.int .i64 ss.fin,.bool td,aT ou]):=aA.aH _ _ _
   generalize s6.aC b8 (.cells [bZ r',.bool bk',q6,.slice (pr.map aF),.bool ac,.slice (ss.p.map aF),.slice (ss.q.map Tm.av),.int .i64 ss.quota,.int .i64 ss.used,.int .i64 ss.sent,.int .i64 ss.fin,.bool td,aT ou])=s7 at *
   have p5:=(p3 [bZ r',.bool bk',q6,.slice (pr.map aF),.bool ac,.slice (ss.p.map aF),.slice (ss.q.map Tm.av),.int .i64 ss.quota,.int .i64 ss.used,.int .i64 ss.sent,.int .i64 ss.fin,.bool td,aT ou] rfl).1
   have p6:=(p3 [bZ r',.bool bk',q6,.slice (pr.map aF),.bool ac,.slice (ss.p.map aF),.slice (ss.q.map Tm.av),.int .i64 ss.quota,.int .i64 ss.used,.int .i64 ss.sent,.int .i64 ss.fin,.bool td,aT ou] rfl).2
   simp only[e77,eb7,e87,z65,hat,p5,p6,aB,seval,tU]
   have D7:aL (s7.aC b (.cells (A++ [bZ r',.bool bk',q6,.slice (pr.map aF),.bool ac,.slice (ss.p.map aF),.slice (ss.q.map Tm.av),.int .i64 ss.quota,.int .i64 ss.used,.int .i64 ss.sent,.int .i64 ss.fin,.bool td,aT ou]++B))) st:=C7.kO.aC JE
   have e68:=(aA.aJ s7 (.cells (A++ [bZ r',.bool bk',q6,.slice (pr.map aF),.bool ac,.slice (ss.p.map aF),.slice (ss.q.map Tm.av),.int .i64 ss.quota,.int .i64 ss.used,.int .i64 ss.sent,.int .i64 ss.fin,.bool td,aT ou]++B)) nb6.symm).trans e67
   have e78:=(aA.aJ s7 (.cells (A++ [bZ r',.bool bk',q6,.slice (pr.map aF),.bool ac,.slice (ss.p.map aF),.slice (ss.q.map Tm.av),.int .i64 ss.quota,.int .i64 ss.used,.int .i64 ss.sent,.int .i64 ss.fin,.bool td,aT ou]++B)) nb7.symm).trans e77
   generalize hs8:s7.aC b (.cells (A++ [bZ r',.bool bk',q6,.slice (pr.map aF),.bool ac,.slice (ss.p.map aF),.slice (ss.q.map Tm.av),.int .i64 ss.quota,.int .i64 ss.used,.int .i64 ss.sent,.int .i64 ss.fin,.bool td,aT ou]++B))=s8 at *
   have eb8:s8 b=some (.cells (A++ [bZ r',.bool bk',q6,.slice (pr.map aF),.bool ac,.slice (ss.p.map aF),.slice (ss.q.map Tm.av),.int .i64 ss.quota,.int .i64 ss.used,.int .i64 ss.sent,.int .i64 ss.fin,.bool td,aT ou]++B)):=by rw[←hs8];exact aA.aH _ _ _
   have k8:∀y,y≠b→s8 y=s7 y:=fun y hy=>by rw[←hs8];exact aA.aJ _ _ hy
   simp only[e68,e78,aG,aB,seval,tU]
   have D9:∀o,aL (s8.aC b6 o) st:=fun o=>D7.aC h6
   refine⟨_,st,D9 _,?_,rfl,rfl⟩
   have T:=fun h=>(D9 (.cells [.mslice b 0 cs.length 13,.int .i64 qu])).step h
   have hq6:∀y∈cW q6,st y=none∧y≠b∧y≠b6:=fun y hy=>by
    obtain⟨h1,h2⟩:=C7.fresh (2,q6,(wt++l').map bO) (by simp) y hy
    have h3:=(DX.1 C7.apart).1 _ (jP ..) y hy
    simp only[cW,cL,c8,dP,not_or] at h2 h3
    exact⟨h1,h3,h2.2.2⟩
   have A9:d3 (s8.aC b6 (.cells [.mslice b 0 cs.length 13,.int .i64 qu])) 2 q6 ((wt++l').map bO):=(C7.acc (2,q6,(wt++l').map bO) (by simp)).aY fun y hy=>by
    obtain⟨h1,h2,h3⟩:=hq6 y hy
    rw[aA.aJ _ _ h3,k8 y h2]
   have S:∀ {a:AV},a.bR=false→Told (s8.aC b6 (.cells [.mslice b 0 cs.length 13,.int .i64 qu])) st a a:=fun h=>Told.same T h
   have tq:=Told.acc (D9 _) A9 (fun y hy=>(hq6 y hy).1) (qT _) (nZ _)
   refine Told.agg (.cons (Told.SZ (os:=((cs.map bF).take n)++ .agg [bZ r',.bool bk',q6,.slice (pr.map aF),.bool ac,.slice (ss.p.map aF),.slice (ss.q.map Tm.av),.int .i64 ss.quota,.int .i64 ss.used,.int .i64 ss.sent,.int .i64 ss.fin,.bool td,aT ou]::((cs.map bF).drop (n+1))) (X:=X) ?_ JE ?_ (uW _) (aGI _)) (.cons (S rfl) .nil))
   · rw[aA.aJ _ _ nb6,eb8,hAB]
   · rw[pO]
     refine dH.append (dH.same T jA) (.cons ?_ (dH.same T jB))
     exact Told.agg (.cons (S rfl) (.cons (S rfl) (.cons tq (.cons (S rfl) (.cons (S rfl) (.cons (S rfl) (.cons (S rfl) (.cons (S rfl) (.cons (S rfl) (.cons (S rfl) (.cons (S rfl) (.cons (S rfl) (.cons (S rfl) .nil)))))))))))))

abbrev zR:=zi aS (zi cH (zi cB (zi mG (zi cC DK))))
set_option maxHeartbeats 1000000 in
theorem aRJ(V:List Int)(a:List Tm)(hal:a.length=V.length)(hva:∀x∈a,x.valid=true)(aXW:∀v∈V,0≤v∧v<26)(hvl:V.length≤26)(st:aA):aD prog 201 [.slice (V.map iv),fB a] st (fun r st'=>r=.str (HR V a)∧st'=st):=by
 have hzl:(V.zip a).length=V.length:=by rw[List.length_zip,hal,Nat.min_self]
 have hsz:∀i,(n8 59 (((V.zip a).take i).map fun p=>mX p.1 p.2)).size≤100000:=fun i=>by
  have:=aYF (c:=59) (l:=((V.zip a).take i).map fun p=>mX p.1 p.2) (B:=3842) fun x hx=>by
   obtain⟨p,hp,rfl⟩:=cM.1 hx
   exact(aOD (hva _ (List.of_mem_zip (lY hp)).2)).1
  refine lZ this (lZ (wA _ (show _≤26 by rw[aE,dK];omega)) (by decide))
 have hm:maxLen=9223372036854775807:=by rfl
 refine wF [1000000] 2 func201 ntmps201 rfl rfl ?_
 intro _
 unfold HR
 by_cases hV:V= []
 · rw[aN hV]
   have h0:=bT (show(V.length:Int)=0 by rw[hV];try rfl)
   simp only[h0,aZ,aE,aB,seval,zR]
 rw[aK hV]
 have h0:=bG (show ¬(V.length:Int)=0 from fun e=>hV (List.length_eq_zero_iff.1 (by omega)))
 simp only[h0,bB,aE,aB,seval,zR]
 refine dX (σ:=Unit) [1000000] [0,3,4] (V.zip a) (fun _ _=>True) (fun i _=>[(5,.str (n8 59 (((V.zip a).take i).map fun p=>mX p.1 p.2))),(6,.int .i64 (i:Int))]) (fun _ _=>st) (by decide +kernel) ⟨(),trivial,aO.mk (by simp only[mK,bE,n8,aB,↓aU,seval])⟩ (fun i x _ hx hlt bP hdr _=>?_) (fun _ hge _=>?_)
 case refine_2=>
  rw[d6,hzl]
  have hg:=bG (Int.lt_irrefl (V.length:Int))
  simp only[hg,bB,aE,aB,seval,zR]
 obtain⟨v,x⟩:=x
 obtain⟨hv,hxa⟩:=List.getElem?_zip_eq_some.1 hx
 simp only at hv hxa
 have fC:n8 59 (((V.zip a).take (i+1)).map fun p=>mX p.1 p.2)=(if 0<i then n8 59 (((V.zip a).take i).map fun p=>mX p.1 p.2)++⟨#[59]⟩ else n8 59 (((V.zip a).take i).map fun p=>mX p.1 p.2))++mX v x:=by
  rw[eS,hx]
  by_cases hi:0<i
  · rw[aN hi,rM]
    exact aYG fun e=>by
     have:=rX List.length e
     rw[aE,dK,a8] at this
     omega
  · obtain rfl:i=0:=by omega
    rw[aK hi]
    exact(aN9 _).symm
 have hs:=hsz i
 have hvv:=aXW v (cQ hv)
 obtain⟨m,rfl⟩:=v6 hvv.1
 have hxv:=hva x (cQ hxa)
 have hxs:=(aLH hxv).1
 have hcw:=fun st=>M0 1000 x st ⟨30,by simp only[Tm.valid,bD] at hxv;exact hxv.1⟩ (by have:=Tm.rH hxv;omega) (by have:=Tm.rH hxv;omega)
 rw[show mX m x=(tO m++⟨#[61]⟩)++tx 1000 x from rfl,←SV,←SV] at fC
 have hwi:=bC (n:=(i:Int)+1)
 have hi:=bT (show(i:Int)<(V.length:Int) by omega)
 have aWV:dT prog 98 (.slice (V.map iv)) (.int .i64 (i:Int))=some (.pptr (iv m)):=bS (av:=iv) qO hv rfl
 have aWT:dT prog 56 (.slice (a.map Tm.av)) (.int .i64 (i:Int))=some (.pptr x.av):=bS (av:=Tm.av) cF hxa (aP x)
 generalize tx 1000 x=X at *
 generalize n8 59 (((V.zip a).take (i+1)).map fun p=>mX p.1 p.2)=J' at *
 generalize n8 59 (((V.zip a).take i).map fun p=>mX p.1 p.2)=J at *
 have hs0:J.size+(⟨#[59]⟩:ByteArray).size≤maxLen:=by show _+1≤_;omega
 have key:∀O:ByteArray,O.size≤100001→O.size+(tO m).size≤maxLen∧(O++tO m).size+(⟨#[61]⟩:ByteArray).size≤maxLen∧((O++tO m)++(⟨#[61]⟩:ByteArray)).size+X.size≤maxLen:=fun O hO=>by
  refine⟨?_,?_,?_⟩
  · show _+1≤_;omega
  · rw[cG];show _+1+1≤_;omega
  · rw[cG,cG];show _+1+1+_≤_;omega
 by_cases h0i:0<i
 case' pos=>
  have h0':=bT (show(0:Int)<(i:Int) by omega)
  rw[aN h0i] at fC
  obtain⟨k1,k2,k3⟩:=key (J++⟨#[59]⟩) (by rw[cG];show _+1≤_;omega)
  simp only[hi,h0',hs0,↓reduceIte,aZ,aE,aB,seval,zR]
 case' neg=>
  have h0':=bG (show ¬(0:Int)<(i:Int) by omega)
  rw[aK h0i] at fC
  obtain⟨k1,k2,k3⟩:=key J (by omega)
  simp only[hi,h0',aZ,bB,aE,aB,seval,zR]
 all_goals
  refine wP [(0,1),(1,1),(2,1),(3,1),(8,1),(10,1),(4,2),(5,2),(6,1),(7,1),(9,2),(11,1),(12,2),(13,2),(14,1),(15,1)] [0,1,2,3,8,10,4,5,6,7,9,11,12,13,14,15] mixed ?_
  simp only[aWV,aB,seval,zR]
  refine gG (TN m (by omega) _) ?_
  simp only[k1,k2,↓reduceIte,aWT,bM,aP,aB,seval,zR]
  refine gG (hcw _) ?_
  simp only[k3,↓reduceIte,hwi,aB,seval]
  exact⟨(),aO.mk (by rw[fC];simp only[aB,seval])⟩
abbrev KD:=zi aS (zi bV (zi cH (zi cB (zi mG DK))))
theorem aRU(q a:List Tm)(st:aA):aD prog 144 [.slice (q.map Tm.av),fB a] st (fun r st'=>r=.str (yM q a)∧st'=st):=by
 have hqv:=aO7 q
 have vK:=EX q
 have c9:=TK a
 have htx:=fun(hf:yK q a=true)=>aRJ (cE q []) a (E6 hf).2.1 (E6 hf).2.2.1 (E6 hf).2.2.2.1 (E6 hf).2.2.2.2
 have hfq:yK q a=(eP q&&(decide (a.length=(cE q []).length)&&a.all Tm.valid)):=by unfold yK;rw[Bool.and_assoc]
 unfold yM
 generalize yK q a=f at *
 refine wF [1000000] 2 func144 ntmps144 rfl rfl ?_
 intro _
 simp only[aB,seval,KD]
 refine(hqv _).to ?_
 simp only[aB,seval]
 refine(vK _).to ?_
 cases hq:eP q with
 | false=>
  rw[hq,eJ] at hfq
  subst hfq
  rw[aK (by decide)]
  simp only[eK,aB,seval]
 | true=>
  rw[hq,cZ] at hfq
  rw[aN rfl]
  by_cases hl:a.length=(cE q []).length
  case neg=>
   rw[eM hl,eJ] at hfq
   subst hfq
   have hl':=bG (show ¬((cE q []).length:Int)=(a.length:Int) by omega)
   rw[aK (by decide)]
   simp only[hl',eK,eA,bB,dV,aE,aB,seval,KD]
  rw[d9 hl,cZ] at hfq
  have hl':=bT (show((cE q []).length:Int)=(a.length:Int) by omega)
  simp only[hl',eA,aZ,dV,aE,aB,seval,KD]
  refine(c9 _).to ?_
  rw[←hfq]
  cases f with
  | false=>
   rw[aK (by decide)]
   simp only[eK,dV,aB,seval]
  | true=>
   rw[aN rfl]
   simp only[eA,dV,aB,seval,KD]
   refine(htx rfl _).to ?_
   simp only[aB,seval]
theorem a0I{p:List Cl}{cnd:Tm→List Nat→List Nat}{s:RS}{g:RG}{rest:List RG}{e:Int}(h:jI p cnd s g rest=.stop e):e≤9:=by
 unfold jI at h
 repeat' split at h
 all_goals first | (cases h;done) | (injection h with h;subst h;unfold uY;repeat' split;all_goals omega) | (injection h with h;omega)
theorem a0G(p:List Cl)(cnd:Tm→List Nat→List Nat)(vars:List Int):∀(n most f:Nat) (s:RS),most+f≤n→(iY p cnd vars most f s).2≤9:=by
 intro n
 induction n with
 | zero=>
  intro most f s hn
  obtain rfl:most=0:=by omega
  obtain rfl:f=0:=by omega
  cases hg:s.goals with
  | nil=>rw[sC hg];simp
  | cons g rest=>rw[oF (fuel:=0) hg];simp
 | succ n ih=>
  intro most f s hn
  cases hg:s.goals with
  | nil=>
   rw[sC hg]
   by_cases hm:most=0
   · rw[aN hm];simp
   rw[aK hm]
   cases ha:oY s.σ vars with
   | none=>simp
   | some a=>
    simp only
    cases hb:fK p s.chs.length s.chs with
    | none=>simp
    | some s'=>exact ih (most - 1) f s' (by omega)
  | cons g rest=>
   by_cases hf:f=0
   · subst hf
     rw[oF (fuel:=0) hg];simp
   rw[oF hg,aK hf]
   cases hst:jI p cnd s g rest with
   | stop e=>exact a0I hst
   | go s'=>exact ih most (f - 1) s' (by omega)
   | fail=>
    simp only
    cases hb:fK p s.chs.length s.chs with
    | none=>simp
    | some s'=>exact ih most (f - 1) s' (by omega)
theorem a1R{p:List Cl}{cnd:Tm→List Nat→List Nat}{q:List Tm}{most fuel:Int}:(lS p cnd q most fuel).2≤9:=by
 unfold lS
 split
 · exact a0G p cnd _ _ _ _ _ (cX _)
 · simp
abbrev a2H:=zi aS (zi cH oL)
theorem uT(k:Int)(t:ByteArray)(st:aA):aD prog 54 [.int .i64 k,.str t] st (fun r st'=>r=bO (k,t)∧st'=st):=by
 refine aD.jT ?_
 refine wF [1000000] 2 func54 ntmps54 rfl rfl ?_
 intro _
 simp only[aG,aB,seval,a2H]
 intro b hb
 exact⟨rfl,(aL.refl _).aC hb⟩
def sent(c:cP)(k:Int)(t:ByteArray):cP:={ c with out:=c.out++ [(k,t)] }
abbrev QD:=zi aS (zi cH (zi iE kI))
set_option maxHeartbeats 1000000 in
theorem EU(c:cP)(k:Int)(t:ByteArray)(ho:c.out.length≤1048576)(st:aA):aD prog 79 [bF c,.int .i64 k,.str t] st (fun r st'=>r=bF (sent c k t)∧st'=st):=by
 obtain⟨r,bk,wt,pr,ac,ss,td,ou⟩:=c
 simp only at ho
 have hfr:=fun s=>uT k t s
 simp only[bO] at hfr
 simp only[bF,eR,sent]
 refine aD.told ?_
 refine wF [1000000,3] 3 func79 ntmps79 rfl rfl ?_
 intro _
 simp only[aB,seval,QD]
 intro b3 h3 b6 h6
 have hne:b6≠b3:=by rintro rfl;rw[aA.aH] at h6;cases h6
 have C0:dG st ((st.aC b3 (.cells [bZ r,.bool bk,aT wt,.slice (pr.map aF),.bool ac,.slice (ss.p.map aF),.slice (ss.q.map Tm.av),.int .i64 ss.quota,.int .i64 ss.used,.int .i64 ss.sent,.int .i64 ss.fin,.bool td,aT ou])).aC b6 (.cells [.fslice [],.bool false,.fslice [],.fslice [],.bool false,.fslice [],.fslice [],.int .i64 0,.int .i64 0,.int .i64 0,.int .i64 0,.bool false,.fslice []])) [b3,b6] []:=FV h3 h6
 have e0:((st.aC b3 (.cells [bZ r,.bool bk,aT wt,.slice (pr.map aF),.bool ac,.slice (ss.p.map aF),.slice (ss.q.map Tm.av),.int .i64 ss.quota,.int .i64 ss.used,.int .i64 ss.sent,.int .i64 ss.fin,.bool td,aT ou])).aC b6 (.cells [.fslice [],.bool false,.fslice [],.fslice [],.bool false,.fslice [],.fslice [],.int .i64 0,.int .i64 0,.int .i64 0,.int .i64 0,.bool false,.fslice []])) b3=some (.cells [bZ r,.bool bk,aT wt,.slice (pr.map aF),.bool ac,.slice (ss.p.map aF),.slice (ss.q.map Tm.av),.int .i64 ss.quota,.int .i64 ss.used,.int .i64 ss.sent,.int .i64 ss.fin,.bool td,aT ou]):=by rw[aA.aJ _ _ hne.symm,aA.aH]
 have g0:((st.aC b3 (.cells [bZ r,.bool bk,aT wt,.slice (pr.map aF),.bool ac,.slice (ss.p.map aF),.slice (ss.q.map Tm.av),.int .i64 ss.quota,.int .i64 ss.used,.int .i64 ss.sent,.int .i64 ss.fin,.bool td,aT ou])).aC b6 (.cells [.fslice [],.bool false,.fslice [],.fslice [],.bool false,.fslice [],.fslice [],.int .i64 0,.int .i64 0,.int .i64 0,.int .i64 0,.bool false,.fslice []])) b6=some (.cells [.fslice [],.bool false,.fslice [],.fslice [],.bool false,.fslice [],.fslice [],.int .i64 0,.int .i64 0,.int .i64 0,.int .i64 0,.bool false,.fslice []]):=aA.aH _ _ _
 generalize (st.aC b3 (.cells [bZ r,.bool bk,aT wt,.slice (pr.map aF),.bool ac,.slice (ss.p.map aF),.slice (ss.q.map Tm.av),.int .i64 ss.quota,.int .i64 ss.used,.int .i64 ss.sent,.int .i64 ss.fin,.bool td,aT ou])).aC b6 (.cells [.fslice [],.bool false,.fslice [],.fslice [],.bool false,.fslice [],.fslice [],.int .i64 0,.int .i64 0,.int .i64 0,.int .i64 0,.bool false,.fslice []])=s0 at *
 simp only[e0,aB,seval]
 refine d3.rT (w:=2) (l:=[]) (xs:=ou.map bO) lC pA pD rfl (by decide) (.inl ⟨rfl,rfl⟩) rfl (u9 ou) (by simp only[a8,aE];omega) (fun q5 s5 A5 K5 F5=>?_)
 rw[dL] at A5
 obtain⟨C5,f5,-⟩:=(C0.new 2).grow A5 K5 F5
 have e5:=(f5 b3 (by simp)).trans e0
 have g5:=(f5 b6 (by simp)).trans g0
 obtain⟨z51,z52,z53,z54,z55⟩:=A5.shape
 simp only[aB,seval]
 refine(hfr _).to ?_
 simp only[aB,seval,QD]
 refine d3.append (w:=2) (l:=ou.map bO) lC pA pD rfl (by decide) A5 rfl rfl (by simp only[aE];omega) (fun q6 s6 A6 K6 F6=>?_)
 rw[show ou.map bO++ [.agg [.int .i64 k,.str t]]=(ou++ [(k,t)]).map bO by simp [bO]] at A6
 obtain⟨C6,f6,-⟩:=C5.grow A6 K6 F6
 have e6:=(f6 b3 (by simp)).trans e5
 have g6:=(f6 b6 (by simp)).trans g5
 obtain⟨z61,z62,z63,z64,z65⟩:=A6.shape
 simp only[aG,e6,z64,z65,aB,seval,QD]
 have C7:=C6.aC (d:=b3) (by simp) (.cells [bZ r,.bool bk,aT wt,.slice (pr.map aF),.bool ac,.slice (ss.p.map aF),.slice (ss.q.map Tm.av),.int .i64 ss.quota,.int .i64 ss.used,.int .i64 ss.sent,.int .i64 ss.fin,.bool td,q6])
 have e7:(s6.aC b3 (.cells [bZ r,.bool bk,aT wt,.slice (pr.map aF),.bool ac,.slice (ss.p.map aF),.slice (ss.q.map Tm.av),.int .i64 ss.quota,.int .i64 ss.used,.int .i64 ss.sent,.int .i64 ss.fin,.bool td,q6])) b3=some (.cells [bZ r,.bool bk,aT wt,.slice (pr.map aF),.bool ac,.slice (ss.p.map aF),.slice (ss.q.map Tm.av),.int .i64 ss.quota,.int .i64 ss.used,.int .i64 ss.sent,.int .i64 ss.fin,.bool td,q6]):=aA.aH _ _ _
 have g7:=(aA.aJ s6 (.cells [bZ r,.bool bk,aT wt,.slice (pr.map aF),.bool ac,.slice (ss.p.map aF),.slice (ss.q.map Tm.av),.int .i64 ss.quota,.int .i64 ss.used,.int .i64 ss.sent,.int .i64 ss.fin,.bool td,q6]) hne).trans g6
 generalize s6.aC b3 (.cells [bZ r,.bool bk,aT wt,.slice (pr.map aF),.bool ac,.slice (ss.p.map aF),.slice (ss.q.map Tm.av),.int .i64 ss.quota,.int .i64 ss.used,.int .i64 ss.sent,.int .i64 ss.fin,.bool td,q6])=s7 at *
 simp only[g7,aB,seval]
 have fP:∀s5:aA,dG st s5 [b3,b6] [(2,q6,(ou++ [(k,t)]).map bO)]→Told s5 st (.agg [bZ r,.bool bk,aT wt,.slice (pr.map aF),.bool ac,.slice (ss.p.map aF),.slice (ss.q.map Tm.av),.int .i64 ss.quota,.int .i64 ss.used,.int .i64 ss.sent,.int .i64 ss.fin,.bool td,aT (ou++ [(k,t)])]) (.agg [bZ r,.bool bk,aT wt,.slice (pr.map aF),.bool ac,.slice (ss.p.map aF),.slice (ss.q.map Tm.av),.int .i64 ss.quota,.int .i64 ss.used,.int .i64 ss.sent,.int .i64 ss.fin,.bool td,q6]):=fun s5 D=>by
  have T:∀h,bQ h s5 h st:=fun h=>D.kO.step h
  have S:∀ {a:AV},a.bR=false→Told s5 st a a:=fun h=>Told.same T h
  have t6:=D.told (p:=(2,q6,(ou++ [(k,t)]).map bO)) (by simp) (qT _) (nZ _)
  exact Told.agg (.cons (S rfl) (.cons (S rfl) (.cons (S rfl) (.cons (S rfl) (.cons (S rfl) (.cons (S rfl) (.cons (S rfl) (.cons (S rfl) (.cons (S rfl) (.cons (S rfl) (.cons (S rfl) (.cons (S rfl) (.cons t6 .nil)))))))))))))
 exact⟨_,st,(C7.aC (by simp) _).kO,fP _ (C7.aC (by simp) _),rfl,rfl⟩
def yA(q a:List Tm):ByteArray:=if 2000<(yM q a).size then⟨#[108,111,110,103]⟩ else yM q a
theorem aM1(q a:List Tm):iA (6,yA q a)=true:=by
 unfold yA
 split
 · decide
 · rename_i h
   have:=aZO q a
   simp only[iA,zY,this,cZ,bD,bA]
   omega
abbrev aJ4:=zi aS (zi cH (zi cB DK))
theorem aPZ(q a:List Tm)(st:aA):aD prog 92 [.slice (q.map Tm.av),fB a] st (fun r st'=>r=.str (yA q a)∧st'=st):=by
 have hf:=fun s=>aRU q a s
 unfold yA
 generalize yM q a=T at *
 simp only[fB] at hf ⊢
 refine wF [1000000] 2 func92 ntmps92 rfl rfl ?_
 intro _
 simp only[aB,seval,aJ4]
 refine(hf _).to ?_
 simp only[aB,seval,aJ4]
 refine aQ (fun h=>?_) (fun h=>?_)
 · have h':2000<T.size:=by
    simp only[bA] at h
    omega
   rw[aN h']
   simp only[aB,seval]
 · have h':¬ 2000<T.size:=by
    simp only[dC] at h
    omega
   rw[aK h']
   simp only[aB,seval]
abbrev JS (l:List Fr):Prop:=∀f∈l,iA f=true∧4≤f.1
theorem aFQ(s:Ss)(u:Int): -1≤(lE s u).2∧(lE s u).2≤9:=by
 have h0:=aI0 (p:=s.p) (cnd:=fun _ l=>l) (q:=s.q) (most:=20) (fuel:=u)
 have h9:=a1R (p:=s.p) (cnd:=fun _ l=>l) (q:=s.q) (most:=20) (fuel:=u)
 simp only[lE]
 split<;>omega
def CZ:Ss:=⟨[],[],0,0,0,0⟩
def gZ(q:List Tm)(l:List (List Tm)):List Fr:=l.map fun a=>(6,yA q a)
theorem aM0(q:List Tm)(l:List (List Tm)):JS (gZ q l):=fun f hf=>by
 obtain⟨a,_,rfl⟩:=cM.1 hf
 exact⟨aM1 q a,by show(4:Int)≤6;decide⟩
theorem aSU:∀n:Nat,n≤9→iA (7,kB 20 n ⟨#[]⟩)=true:=by decide
noncomputable def zN(c:cP)(n:Int):cP:=if(j9 c.ses n).fin= -1 then { c with ses:=j9 c.ses n,out:=c.out++gZ c.ses.q (lG c.ses n) } else { c with act:=false,ses:=CZ,out:=(c.out++gZ c.ses.q (lG c.ses n))++ [(7,kB 20 (j9 c.ses n).fin.toNat ⟨#[]⟩)] }
abbrev tW:=zi aS (zi bV (zi aKL (zi KP (zi cH (zi cB (zi oK (zi kI (zi DM DK))))))))
set_option maxHeartbeats 1000000 in
theorem aQA(c:cP)(n:Int)(h:nK c.ses=true)(hn:0≤n)(ho:c.out.length≤1000000)(st:aA):aD prog 78 [bF c,.int .i64 n] st (fun r st'=>r=bF (zN c n)∧st'=st):=by
 have hsl:=fun s=>aPU c.ses n h hn s
 have a4V:(lG c.ses n).length≤20:=by
  have:=(J5 h hn).l
  unfold lG
  rw[j6];omega
 have hrg: -1≤(j9 c.ses n).fin∧(j9 c.ses n).fin≤9:=aFQ c.ses _
 have hsq:(j9 c.ses n).q=c.ses.q:=rfl
 have hsp:(j9 c.ses n).p=c.ses.p:=rfl
 have hsu:(j9 c.ses n).quota=c.ses.quota:=rfl
 unfold zN
 generalize lG c.ses n=L at *
 generalize j9 c.ses n=S at *
 obtain⟨r,bk,wt,pr,ac,ss,td,ou⟩:=c
 obtain⟨Sp,Sq,Sn,Su,Ss',Sf⟩:=S
 simp only at hsq hsp hsu hrg ho hsl
 subst hsq
 simp only[bF,eR]
 unfold iZ at hsl
 refine aD.jT ?_
 refine wF [1000000,2] 2 func78 ntmps78 rfl rfl ?_
 intro _
 simp only[aB,seval,tW]
 intro b2 h2 b4 h4
 have hne:b4≠b2:=by rintro rfl;rw[aA.aH] at h4;cases h4
 have h4n:st b4=none:=by rw[aA.aJ _ _ hne] at h4;exact h4
 have hcm:∀A B Z,((st.aC b2 A).aC b4 Z).aC b2 B=(st.aC b2 B).aC b4 Z:=fun A B Z=>by
  funext y
  by_cases e1:y=b2<;>by_cases e2:y=b4<;>simp_all [aA.aC]
 simp only[gC,hne.symm,aB,seval]
 refine(hsl _).to ?_
 simp only[aB,↓aU,seval,tW]
 refine dX (σ:=Unit) [1000000,2] [2,4,5,6] L (fun i _=>True) (fun i _=>[(7,.int .i64 i)]) (fun i _=>(st.aC b2 (.cells [bZ r,.bool bk,aT wt,.slice (pr.map aF),.bool ac,.slice (ss.p.map aF),.slice (ss.q.map Tm.av),.int .i64 ss.quota,.int .i64 ss.used,.int .i64 ss.sent,.int .i64 ss.fin,.bool td,aT (ou++gZ ss.q (L.take i))])).aC b4 (.cells [.fslice [],.bool false,.fslice [],.fslice [],.bool false,.fslice [],.fslice [],.int .i64 0,.int .i64 0,.int .i64 0,.int .i64 0,.bool false,.fslice []])) (by decide +kernel) ⟨(),trivial,by rw[show ou++gZ ss.q (L.take 0)=ou by simp [gZ]];exact aO.mk (by simp only[aB,↓aU,seval])⟩ (fun i x _ hx hlt bP hdr hinv=>?_) (fun _ hge hinv=>?_)
 case refine_2=>
  rw[d6]
  have hOl:(ou++gZ ss.q L).length≤1000100:=by simp only[gZ,dO,aE];omega
  generalize ou++gZ ss.q L=O at *
  simp only[hge,aG,aE,gC,hne.symm,aB,seval,tW]
  by_cases hf:Sf= -1
  · rw[aN hf]
    have hf':=bT hf
    simp only[hf',aZ,eA,aG,gC,hne,aB,seval,tW]
    intro y
    by_cases e1:y=b2<;>by_cases e2:y=b4<;>simp_all [aA.aC]
  · rw[aK hf]
    have hf':=bG hf
    obtain⟨m,hm⟩:∃m:Nat,Sf=m:=⟨Sf.toNat,by omega⟩
    have hdc:=fun s=>MW m (by omega) s
    rw[←hm] at hdc
    have hmt:Sf.toNat=m:=by omega
    rw[hmt]
    have hse:=fun s=>EU ⟨r,bk,wt,pr,false,CZ,td,O⟩ 7 (kB 20 m ⟨#[]⟩) (by simp only;omega) s
    simp only[bF,eR,sent,CZ,bE] at hse
    simp only[hf',bB,eK,aG,gC,aB,seval,tW]
    rw[hcm]
    have eb9:((st.aC b2 (.cells [bZ r,.bool bk,aT wt,.slice (pr.map aF),.bool false,.fslice [],.fslice [],.int .i64 0,.int .i64 0,.int .i64 0,.int .i64 0,.bool td,aT O])).aC b4 (.cells [.fslice [],.bool false,.fslice [],.fslice [],.bool false,.fslice [],.fslice [],.int .i64 0,.int .i64 0,.int .i64 0,.int .i64 0,.bool false,.fslice []])) b2=some (.cells [bZ r,.bool bk,aT wt,.slice (pr.map aF),.bool false,.fslice [],.fslice [],.int .i64 0,.int .i64 0,.int .i64 0,.int .i64 0,.bool td,aT O]):=by rw[aA.aJ _ _ hne.symm,aA.aH]
    refine wX [(0,1),(1,1),(2,1),(3,0),(4,2),(5,2)] [0,1,2] (one b2 (.cells [bZ r,.bool bk,aT wt,.slice (pr.map aF),.bool false,.fslice [],.fslice [],.int .i64 0,.int .i64 0,.int .i64 0,.int .i64 0,.bool td,aT O])) mixed rfl (hJ eb9) ?_
    simp only[FT,aB,seval,tW]
    refine(hdc _).to ?_
    simp only[aB,seval]
    refine⟨hJ eb9,?_⟩
    refine aD.to (aD.oG (by simp only[fT,AV.soft];exact hse _)) ?_
    simp only[aG,gC,hne,hne.symm,aB,seval,tW]
    refine⟨rfl,?_⟩
    intro y
    by_cases e1:y=b2<;>by_cases e2:y=b4<;>simp_all [aA.aC]
 have htk:ou++gZ ss.q (L.take (i+1))=(ou++gZ ss.q (L.take i))++ [(6,yA ss.q x)]:=by
  rw[eS,hx];simp [gZ]
 have hOl:(ou++gZ ss.q (L.take i)).length≤1000100:=by simp only[gZ,dO,aE,dK];omega
 rw[htk]
 generalize ou++gZ ss.q (L.take i)=O at *
 have hw:=bC (n:=(i:Int)+1)
 have hat:=bS (av:=fB) (P:=prog) IJ hx rfl
 have han:=fun s=>aPZ ss.q x s
 have hse:=fun s=>EU ⟨r,bk,wt,pr,ac,ss,td,O⟩ 6 (yA ss.q x) (by simp only;omega) s
 simp only[bF,eR,sent] at hse
 simp only[fB] at hat han
 have eb2:((st.aC b2 (.cells [bZ r,.bool bk,aT wt,.slice (pr.map aF),.bool ac,.slice (ss.p.map aF),.slice (ss.q.map Tm.av),.int .i64 ss.quota,.int .i64 ss.used,.int .i64 ss.sent,.int .i64 ss.fin,.bool td,aT O])).aC b4 (.cells [.fslice [],.bool false,.fslice [],.fslice [],.bool false,.fslice [],.fslice [],.int .i64 0,.int .i64 0,.int .i64 0,.int .i64 0,.bool false,.fslice []])) b2=some (.cells [bZ r,.bool bk,aT wt,.slice (pr.map aF),.bool ac,.slice (ss.p.map aF),.slice (ss.q.map Tm.av),.int .i64 ss.quota,.int .i64 ss.used,.int .i64 ss.sent,.int .i64 ss.fin,.bool td,aT O]):=by rw[aA.aJ _ _ hne.symm,aA.aH]
 simp only[bP,aE,aB,seval,tW]
 refine wX [(0,1),(1,1),(2,1),(3,1),(4,1),(5,1),(6,1),(7,0),(8,2),(9,2)] [0,1,2,3,4,5,6] (one b2 (.cells [bZ r,.bool bk,aT wt,.slice (pr.map aF),.bool ac,.slice (ss.p.map aF),.slice (ss.q.map Tm.av),.int .i64 ss.quota,.int .i64 ss.used,.int .i64 ss.sent,.int .i64 ss.fin,.bool td,aT O])) mixed rfl (hJ eb2) ?_
 simp only[hat,FT,aB,seval,tW]
 refine(han _).to ?_
 simp only[aB,seval]
 refine⟨hJ eb2,?_⟩
 refine(hse _).to ?_
 simp only[aG,gC,hne.symm,hw,aB,seval,tW]
 rw[hcm]
 exact⟨(),aO.mk (by simp only[aB,seval])⟩
theorem dG.erase{st s:aA}{ds:List Nat}{ps:List (Nat×AV×List AV)}{w:Nat}{q:AV}{l:List AV}(C:dG st s ds ((w,q,l)::ps)) :
 ∃s0,aL s s0∧dG st s0 ds ps∧(∀d∈ds,s0 d=s d)∧∀y∈cW q,s0 y=none:=by
 have hap:=DX.1 C.apart
 have hf:=C.fresh _ (jP ..)
 refine⟨fun y=>if y∈cW q then none else s y,fun y=>⟨fun h=>?_,fun o h=>?_⟩,⟨fun p hp=>?_,hap.2,fun p hp=>C.fresh p (AH _ hp),fun d hd=>⟨(C.left d hd).1,?_⟩,fun y o h=>?_⟩,fun d hd=>?_,fun y hy=>?_⟩
 · by_cases hy:y∈cW q<;>simp [hy,h]
 · by_cases hy:y∈cW q
   · simp [hy] at h
   · simpa [hy] using h
 · exact(C.acc p (AH _ hp)).aY fun y hy=>aK fun h=>hap.1 p hp y h hy
 · have:d∉cW q:=fun h=>(hf d h).2 hd
   simp only[this,dA]
   exact(C.left d hd).2
 · have:y∉cW q:=fun hy=>by rw[(hf y hy).1] at h;cases h
   simp only[this,dA]
   exact C.aY y o h
 · have:d∉cW q:=fun h=>(hf d h).2 hd
   simp only[this,dA]
 · simp only[hy,eN]
theorem H0(c:cP)(k:Int)(t:ByteArray)(ho:c.out.length≤1048576){st s:aA}{ds:List Nat}{q:AV}(C:dG st s ds [(2,q,c.wait.map bO)]) :
 aD prog 79 [.agg [bZ c.rest,.bool c.brk,q,.slice (c.prog.map aF),.bool c.act,.slice (c.ses.p.map aF),.slice (c.ses.q.map Tm.av),.int .i64 c.ses.quota,.int .i64 c.ses.used,.int .i64 c.ses.sent,.int .i64 c.ses.fin,.bool c.told,aT c.out],.int .i64 k,.str t] s (fun r s'=>r=bF (sent c k t)∧dG st s' ds []∧∀d∈ds,s' d=s d):=by
 obtain⟨s0,D,C0,k0,e0⟩:=C.erase
 have T:=fun h=>D.step h
 have S:∀ {a:AV},a.bR=false→Told s s0 a a:=fun h=>Told.same T h
 have tq:Told s s0 (aT c.wait) q:=Told.acc D (C.acc (2,q,c.wait.map bO) (by simp)) e0 (qT _) (nZ _)
 have hv:dH s s0 [bF c,.int .i64 k,.str t] [.agg [bZ c.rest,.bool c.brk,q,.slice (c.prog.map aF),.bool c.act,.slice (c.ses.p.map aF),.slice (c.ses.q.map Tm.av),.int .i64 c.ses.quota,.int .i64 c.ses.used,.int .i64 c.ses.sent,.int .i64 c.ses.fin,.bool c.told,aT c.out],.int .i64 k,.str t]:=
  .cons (Told.agg (.cons (S rfl) (.cons (S rfl) (.cons tq (.cons (S rfl) (.cons (S rfl) (.cons (S rfl) (.cons (S rfl) (.cons (S rfl) (.cons (S rfl) (.cons (S rfl) (.cons (S rfl) (.cons (S rfl) (.cons (S rfl) .nil)))))))))))))) (.cons (S rfl) (.cons (S rfl) .nil))
 refine aD.aG6 D (fun h vs S y=>hv.rel h vs S y) ((EU c k t ho s0).mono ?_)
 rintro r s' ⟨rfl,rfl⟩
 exact⟨rfl,C0,k0⟩
theorem aP9(c:cP)(hp0:c.prog= [])(k:Int)(t:ByteArray)(ho:c.out.length≤1048576){st s:aA}{ds:List Nat}{q:AV}(C:dG st s ds [(2,q,c.wait.map bO)]) :
 aD prog 79 [.agg [bZ c.rest,.bool c.brk,q,.fslice [],.bool c.act,.slice (c.ses.p.map aF),.slice (c.ses.q.map Tm.av),.int .i64 c.ses.quota,.int .i64 c.ses.used,.int .i64 c.ses.sent,.int .i64 c.ses.fin,.bool c.told,aT c.out],.int .i64 k,.str t] s (fun r s'=>r=bF (sent c k t)∧dG st s' ds []∧∀d∈ds,s' d=s d):=by
 obtain⟨s0,D,C0,k0,e0⟩:=C.erase
 have T:=fun h=>D.step h
 have S:∀ {a:AV},a.bR=false→Told s s0 a a:=fun h=>Told.same T h
 have tq:Told s s0 (aT c.wait) q:=Told.acc D (C.acc (2,q,c.wait.map bO) (by simp)) e0 (qT _) (nZ _)
 have t0:Told s s0 (.slice (c.prog.map aF)) (.fslice []):=by
  rw[hp0]
  exact⟨rfl,rfl,rfl,fun h cs S y=>VC.mono (T h) _ _ (VC.soft (.fslice []) cs y)⟩
 have hv:dH s s0 [bF c,.int .i64 k,.str t] [.agg [bZ c.rest,.bool c.brk,q,.fslice [],.bool c.act,.slice (c.ses.p.map aF),.slice (c.ses.q.map Tm.av),.int .i64 c.ses.quota,.int .i64 c.ses.used,.int .i64 c.ses.sent,.int .i64 c.ses.fin,.bool c.told,aT c.out],.int .i64 k,.str t]:=
  .cons (Told.agg (.cons (S rfl) (.cons (S rfl) (.cons tq (.cons t0 (.cons (S rfl) (.cons (S rfl) (.cons (S rfl) (.cons (S rfl) (.cons (S rfl) (.cons (S rfl) (.cons (S rfl) (.cons (S rfl) (.cons (S rfl) .nil)))))))))))))) (.cons (S rfl) (.cons (S rfl) .nil))
 refine aD.aG6 D (fun h vs S y=>hv.rel h vs S y) ((EU c k t ho s0).mono ?_)
 rintro r s' ⟨rfl,rfl⟩
 exact⟨rfl,C0,k0⟩
theorem a1D{P:Program}{t:TypeId}{ag:Bool}{φ:AF}{l:List Fr}(hI:eI P t=some (ag,2))(hl:1≤l.length):gJ P φ t (.slice (l.map bO)) (some (.const (.int .i64 1))) none none=some (.slice ((l.drop 1).map bO)):=by
 have b1:dE φ none (l.map bO).length (l.map bO).length=some (l.map bO).length:=rfl
 have b3:dE φ (some (.const (.int .i64 1))) 0 (l.map bO).length=some 1:=by
  show(if((0:Nat):Int)≤1∧(1:Int)≤((l.map bO).length:Int) then some (Int.toNat 1) else none)=some 1
  rw[aE,aN ⟨by omega,by omega⟩]
  try rfl
 have hwo:pZ (l.map bO) 1 2=true:=by
  unfold pZ
  rw[lK]
  cases l[1]?<;>rfl
 unfold gJ nU
 rw[aK (by simp [qV])]
 simp only[hI,b1,b3,hwo]
 rw[d6]
 simp
noncomputable def tF(c:cP)(f:Fr)(w:List Fr)(qu:Int):cP:=
 if f.1=1 then(match oE (sb f.2) with
  | some p=>sent { c with wait:=w,prog:=p } 4 ⟨#[]⟩
  | none=>sent { c with wait:=w } 5 ⟨#[112,114,111,103,114,97,109]⟩)
 else if f.1=2 then(match lH (sb f.2) with
  | some q=>{ c with wait:=w,ses:=mA c.prog q qu,act:=true }
  | none=>sent { c with wait:=w } 5 ⟨#[113,117,101,114,121]⟩)
 else if f.1=3 then sent { c with wait:=w,prog:=[] } 4 ⟨#[]⟩
 else sent { c with wait:=w } 5 ⟨#[116,121,112,101]⟩
abbrev mB:=zi aS (zi bV (zi gD (zi cH (zi iE (zi jK (zi cB (zi oK (zi kI (zi oL (zi QR (zi a2P (zi a2Q (zi a2R KO)))))))))))))
set_option maxHeartbeats 1000000 in
theorem aP6(c:cP)(f:Fr)(w:List Fr)(qu:Int)(hw:c.wait=f::w)(hwl:w.length≤1048576)(hf:f.2.size≤100000)(ho:c.out.length≤1000000)(st:aA):aD prog 53 [bF c,.int .i64 qu] st (fun r st'=>r=bF (tF c f w qu)∧st'=st):=by
 obtain⟨r,bk,wt,pr,ac,ss,td,ou⟩:=c
 simp only at hw ho
 subst hw
 obtain⟨fk,ft⟩:=f
 simp only at hf
 have hpp:=fun s=>TB ft hf s
 have hpq:=fun s=>MS ft s
 have hop:=fun q s=>aRY pr q qu s
 simp only[bF,eR]
 have hat:dT prog 30 (.slice (((fk,ft)::w).map bO)) (.int .i64 0)=some (.pptr (.agg [.int .i64 fk,.str ft])):=bS (av:=bO) (i:=0) (l:=(fk,ft)::w) lC rfl rfl
 have hsl:=fun φ=>a1D (P:=prog) (φ:=φ) (l:=(fk,ft)::w) lC (by simp)
 simp only[List.drop_succ_cons,sN] at hsl
 refine aD.told ?_
 refine wF [1000000,2] 2 func53 ntmps53 rfl rfl ?_
 intro _
 simp only[aB,seval,mB]
 intro b2 h2 b4 h4
 have hne:b4≠b2:=by rintro rfl;rw[aA.aH] at h4;cases h4
 have C0:dG st ((st.aC b2 (.cells [bZ r,.bool bk,aT ((fk,ft)::w),.slice (pr.map aF),.bool ac,.slice (ss.p.map aF),.slice (ss.q.map Tm.av),.int .i64 ss.quota,.int .i64 ss.used,.int .i64 ss.sent,.int .i64 ss.fin,.bool td,aT ou])).aC b4 (.cells [.fslice [],.bool false,.fslice [],.fslice [],.bool false,.fslice [],.fslice [],.int .i64 0,.int .i64 0,.int .i64 0,.int .i64 0,.bool false,.fslice []])) [b2,b4] []:=FV h2 h4
 have e0:((st.aC b2 (.cells [bZ r,.bool bk,aT ((fk,ft)::w),.slice (pr.map aF),.bool ac,.slice (ss.p.map aF),.slice (ss.q.map Tm.av),.int .i64 ss.quota,.int .i64 ss.used,.int .i64 ss.sent,.int .i64 ss.fin,.bool td,aT ou])).aC b4 (.cells [.fslice [],.bool false,.fslice [],.fslice [],.bool false,.fslice [],.fslice [],.int .i64 0,.int .i64 0,.int .i64 0,.int .i64 0,.bool false,.fslice []])) b2=some (.cells [bZ r,.bool bk,aT ((fk,ft)::w),.slice (pr.map aF),.bool ac,.slice (ss.p.map aF),.slice (ss.q.map Tm.av),.int .i64 ss.quota,.int .i64 ss.used,.int .i64 ss.sent,.int .i64 ss.fin,.bool td,aT ou]):=by rw[aA.aJ _ _ hne.symm,aA.aH]
 have g0:((st.aC b2 (.cells [bZ r,.bool bk,aT ((fk,ft)::w),.slice (pr.map aF),.bool ac,.slice (ss.p.map aF),.slice (ss.q.map Tm.av),.int .i64 ss.quota,.int .i64 ss.used,.int .i64 ss.sent,.int .i64 ss.fin,.bool td,aT ou])).aC b4 (.cells [.fslice [],.bool false,.fslice [],.fslice [],.bool false,.fslice [],.fslice [],.int .i64 0,.int .i64 0,.int .i64 0,.int .i64 0,.bool false,.fslice []])) b4=some (.cells [.fslice [],.bool false,.fslice [],.fslice [],.bool false,.fslice [],.fslice [],.int .i64 0,.int .i64 0,.int .i64 0,.int .i64 0,.bool false,.fslice []]):=aA.aH _ _ _
 generalize (st.aC b2 (.cells [bZ r,.bool bk,aT ((fk,ft)::w),.slice (pr.map aF),.bool ac,.slice (ss.p.map aF),.slice (ss.q.map Tm.av),.int .i64 ss.quota,.int .i64 ss.used,.int .i64 ss.sent,.int .i64 ss.fin,.bool td,aT ou])).aC b4 (.cells [.fslice [],.bool false,.fslice [],.fslice [],.bool false,.fslice [],.fslice [],.int .i64 0,.int .i64 0,.int .i64 0,.int .i64 0,.bool false,.fslice []])=s0 at *
 simp only[e0,hat,hsl,aB,↓aU,seval,mB]
 refine d3.rT (w:=2) (l:=[]) (xs:=w.map bO) lC pA pD rfl (by decide) (.inl ⟨rfl,rfl⟩) rfl (u9 w) (by simp only[a8,aE];omega) (fun q s1 A1 K1 F1=>?_)
 rw[dL] at A1
 obtain⟨C1,f1,-⟩:=(C0.new 2).grow A1 K1 F1
 have e1:=(f1 b2 (by simp)).trans e0
 have g1:=(f1 b4 (by simp)).trans g0
 obtain⟨z11,z12,z13,z14,z15⟩:=A1.shape
 simp only[aG,e1,z14,z15,aB,seval,mB]
 have C2:=C1.aC (d:=b2) (by simp) (.cells [bZ r,.bool bk,q,.slice (pr.map aF),.bool ac,.slice (ss.p.map aF),.slice (ss.q.map Tm.av),.int .i64 ss.quota,.int .i64 ss.used,.int .i64 ss.sent,.int .i64 ss.fin,.bool td,aT ou])
 have e2:(s1.aC b2 (.cells [bZ r,.bool bk,q,.slice (pr.map aF),.bool ac,.slice (ss.p.map aF),.slice (ss.q.map Tm.av),.int .i64 ss.quota,.int .i64 ss.used,.int .i64 ss.sent,.int .i64 ss.fin,.bool td,aT ou])) b2=some (.cells [bZ r,.bool bk,q,.slice (pr.map aF),.bool ac,.slice (ss.p.map aF),.slice (ss.q.map Tm.av),.int .i64 ss.quota,.int .i64 ss.used,.int .i64 ss.sent,.int .i64 ss.fin,.bool td,aT ou]):=aA.aH _ _ _
 have g2:=(aA.aJ s1 (.cells [bZ r,.bool bk,q,.slice (pr.map aF),.bool ac,.slice (ss.p.map aF),.slice (ss.q.map Tm.av),.int .i64 ss.quota,.int .i64 ss.used,.int .i64 ss.sent,.int .i64 ss.fin,.bool td,aT ou]) hne).trans g1
 generalize s1.aC b2 (.cells [bZ r,.bool bk,q,.slice (pr.map aF),.bool ac,.slice (ss.p.map aF),.slice (ss.q.map Tm.av),.int .i64 ss.quota,.int .i64 ss.used,.int .i64 ss.sent,.int .i64 ss.fin,.bool td,aT ou])=s2 at *
 have fX:∀(c:cP) (s5:aA),dG st s5 [b2,b4] []→s5 b4=some (.cells [.fslice [],.bool false,.fslice [],.fslice [],.bool false,.fslice [],.fslice [],.int .i64 0,.int .i64 0,.int .i64 0,.int .i64 0,.bool false,.fslice []])→∃a s2,aL (s5.aC b4 (.cells (eR c))) s2∧Told (s5.aC b4 (.cells (eR c))) s2 a (.agg (eR c))∧a=.agg (eR c)∧s2=st:=fun c s5 D g=>by
  have D':=D.aC (d:=b4) (by simp) (.cells (eR c))
  exact⟨_,st,D'.kO,Told.same (fun h=>D'.kO.step h) rfl,rfl,rfl⟩
 by_cases hk1:fk=1
 · have hk:=bT hk1
   unfold tF
   rw[aN hk1]
   simp only[hk,aZ,aB,seval,mB]
   refine(hpp _).mono ?_
   rintro _ s3 ⟨hr,rfl⟩
   cases hT:oE (sb ft) with
   | none=>
    rw[hT] at hr
    simp only[AK] at hr
    subst hr
    simp only[eK,e2,aB,seval,mB]
    refine(H0 ⟨r,bk,w,pr,ac,ss,td,ou⟩ 5 ⟨#[112,114,111,103,114,97,109]⟩ (by simp only;omega) C2).mono ?_
    rintro _ s3 ⟨rfl,C3,k3⟩
    have g3:=(k3 b4 (by simp)).trans g2
    simp only[bF,eR,sent]
    simp only[aG,g3,aB,seval,mB]
    exact fX ⟨r,bk,w,pr,ac,ss,td,ou++ [(5,⟨#[112,114,111,103,114,97,109]⟩)]⟩ s3 C3 g3
   | some p=>
    rw[hT] at hr
    simp only[AK] at hr
    subst hr
    simp only[eA,aG,e2,aB,seval,mB]
    refine(H0 ⟨r,bk,w,p,ac,ss,td,ou⟩ 4 ⟨#[]⟩ (by simp only;omega) (C2.aC (d:=b2) (by simp) (.cells [bZ r,.bool bk,q,.slice (p.map aF),.bool ac,.slice (ss.p.map aF),.slice (ss.q.map Tm.av),.int .i64 ss.quota,.int .i64 ss.used,.int .i64 ss.sent,.int .i64 ss.fin,.bool td,aT ou]))).mono ?_
    rintro _ s4 ⟨rfl,C3,k3⟩
    have g3:=(k3 b4 (by simp)).trans ((aA.aJ _ _ hne).trans g2)
    simp only[bF,eR,sent]
    simp only[aG,g3,aB,seval,mB]
    exact fX ⟨r,bk,w,p,ac,ss,td,ou++ [(4,⟨#[]⟩)]⟩ s4 C3 g3
 have hk:=bG hk1
 by_cases hk2:fk=2
 · have hk':=bT hk2
   unfold tF
   rw[aK hk1,aN hk2]
   simp only[hk,hk',aZ,bB,aB,seval,mB]
   refine(hpq _).to ?_
   cases hT:lH (sb ft) with
   | none=>
    simp only[xW]
    simp only[eK,e2,aB,seval,mB]
    refine(H0 ⟨r,bk,w,pr,ac,ss,td,ou⟩ 5 ⟨#[113,117,101,114,121]⟩ (by simp only;omega) C2).mono ?_
    rintro _ s4 ⟨rfl,C3,k3⟩
    have g3:=(k3 b4 (by simp)).trans g2
    simp only[bF,eR,sent]
    simp only[aG,g3,aB,seval,mB]
    exact fX ⟨r,bk,w,pr,ac,ss,td,ou++ [(5,⟨#[113,117,101,114,121]⟩)]⟩ s4 C3 g3
   | some qq=>
    simp only[xW]
    simp only[eA,e2,aB,seval,mB]
    refine(hop qq _).to ?_
    generalize mA pr qq qu=S1 at *
    simp only[iZ]
    have g2':=fun X=>(aA.aJ s2 X hne).trans g2
    simp only[aG,e2,g2',z15,aB,↓aU,seval,mB]
    have D':=(C2.aC (d:=b2) (by simp) (.cells [bZ r,.bool bk,q,.slice (pr.map aF),.bool true,.slice (S1.p.map aF),.slice (S1.q.map Tm.av),.int .i64 S1.quota,.int .i64 S1.used,.int .i64 S1.sent,.int .i64 S1.fin,.bool td,aT ou])).aC (d:=b4) (by simp) (.cells [bZ r,.bool bk,q,.slice (pr.map aF),.bool true,.slice (S1.p.map aF),.slice (S1.q.map Tm.av),.int .i64 S1.quota,.int .i64 S1.used,.int .i64 S1.sent,.int .i64 S1.fin,.bool td,aT ou])
    have S:∀ {a:AV},a.bR=false→Told ((s2.aC b2 (.cells [bZ r,.bool bk,q,.slice (pr.map aF),.bool true,.slice (S1.p.map aF),.slice (S1.q.map Tm.av),.int .i64 S1.quota,.int .i64 S1.used,.int .i64 S1.sent,.int .i64 S1.fin,.bool td,aT ou])).aC b4 (.cells [bZ r,.bool bk,q,.slice (pr.map aF),.bool true,.slice (S1.p.map aF),.slice (S1.q.map Tm.av),.int .i64 S1.quota,.int .i64 S1.used,.int .i64 S1.sent,.int .i64 S1.fin,.bool td,aT ou])) st a a:=fun h=>Told.same (fun h=>D'.kO.step h) h
    have tq:=D'.told (p:=(2,q,w.map bO)) (by simp) (qT w) (nZ w)
    exact⟨_,st,D'.kO,Told.agg (.cons (S rfl) (.cons (S rfl) (.cons tq (.cons (S rfl) (.cons (S rfl) (.cons (S rfl) (.cons (S rfl) (.cons (S rfl) (.cons (S rfl) (.cons (S rfl) (.cons (S rfl) (.cons (S rfl) (.cons (S rfl) .nil))))))))))))),rfl,rfl⟩
 have hk':=bG hk2
 by_cases hk3:fk=3
 · have OM:=bT hk3
   unfold tF
   rw[aK hk1,aK hk2,aN hk3]
   simp only[hk,hk',OM,aZ,bB,aG,e2,aB,seval,mB]
   refine(aP9 ⟨r,bk,w,[],ac,ss,td,ou⟩ rfl 4 ⟨#[]⟩ (by simp only;omega) (C2.aC (d:=b2) (by simp) _)).mono ?_
   rintro _ s4 ⟨rfl,C3,k3⟩
   have g3:=(k3 b4 (by simp)).trans ((aA.aJ _ _ hne).trans g2)
   simp only[bF,eR,sent,bE]
   simp only[aG,g3,aB,seval,mB]
   exact fX ⟨r,bk,w,[],ac,ss,td,ou++ [(4,⟨#[]⟩)]⟩ s4 C3 g3
 have OM:=bG hk3
 unfold tF
 rw[aK hk1,aK hk2,aK hk3]
 simp only[hk,hk',OM,bB,e2,aB,seval,mB]
 refine(H0 ⟨r,bk,w,pr,ac,ss,td,ou⟩ 5 ⟨#[116,121,112,101]⟩ (by simp only;omega) C2).mono ?_
 rintro _ s4 ⟨rfl,C3,k3⟩
 have g3:=(k3 b4 (by simp)).trans g2
 simp only[bF,eR,sent]
 simp only[aG,g3,aB,seval,mB]
 exact fX ⟨r,bk,w,pr,ac,ss,td,ou++ [(5,⟨#[116,121,112,101]⟩)]⟩ s4 C3 g3
noncomputable def lW(c:cP)(qu n:Int):cP:=
 if c.act=true then zN c n
 else match c.wait with
  | f::w=>tF c f w qu
  | []=>if(c.brk&& !c.told)=true then sent { c with told:=true } 5 ⟨#[102,114,97,109,101]⟩ else c
abbrev vW:=zi aS (zi bV (zi gD (zi cH (zi iE (zi rE (zi kI (zi QR KO)))))))
set_option maxHeartbeats 1000000 in
theorem aQB(c:cP)(qu n:Int)(hok:lB c=true)(hn:0≤n)(hwl:c.wait.length≤1048576)(ho:c.out.length≤1000000)(st:aA):aD prog 44 [bF c,.int .i64 qu,.int .i64 n] st (fun r st'=>r=bF (lW c qu n)∧st'=st):=by
 have hsl:=fun h s=>aQA c n h hn ho s
 have hhd:=fun f w h1 h2 s=>aP6 c f w qu h1 (by rw[h1] at hwl;simp at hwl;omega) h2 ho s
 simp only[lB,bD,c6,kZ,i9,bA] at hok
 obtain⟨k1,k2,k3,k4⟩:=hok
 unfold lW
 obtain⟨r,bk,wt,pr,ac,ss,td,ou⟩:=c
 simp only at k1 k2 ho hwl
 refine aD.jT ?_
 simp only[bF,eR] at hsl hhd ⊢
 refine wF [1000000,3] 3 func44 ntmps44 rfl rfl ?_
 intro _
 simp only[aB,seval,vW]
 intro b3 h3 b6 h6
 have hne:b6≠b3:=by rintro rfl;rw[aA.aH] at h6;cases h6
 have h6n:st b6=none:=by rw[aA.aJ _ _ hne] at h6;exact h6
 have hD2:∀A B,aL ((st.aC b3 A).aC b6 B) st:=fun A B=>by
  intro y
  by_cases e1:y=b3<;>by_cases e2:y=b6<;>simp_all [aA.aC]
 have hDr:∀A B C,aL (((st.aC b3 A).aC b6 B).aC b6 C) st:=fun A B C=>by
  intro y
  by_cases e1:y=b3<;>by_cases e2:y=b6<;>simp_all [aA.aC]
 have aFW:∀A B C E,aL ((((st.aC b3 A).aC b6 B).aC b3 C).aC b6 E) st:=fun A B C E=>by
  intro y
  by_cases e1:y=b3<;>by_cases e2:y=b6<;>simp_all [aA.aC]
 cases ac with
 | true=>
  rw[aN rfl]
  have hss:nK ss=true:=by rcases k2 with h | h;cases h;exact h.1
  simp only[gC,hne.symm,aB,seval,vW]
  refine(hsl hss _).to ?_
  simp only[aG,gC,aB,seval,vW]
  exact hD2 _ _
 | false=>
  rw[aK (by simp)]
  cases wt with
  | cons f w=>
   have h1:=k1 f (jP ..)
   simp only[iA,zY,bD,bA] at h1
   have hp:=bT (show(0:Int)<(w.length:Int)+1 by omega)
   simp only[aX,hp,aZ,aE,gC,hne.symm,aB,seval,vW]
   refine(hhd f w rfl (by omega) _).to ?_
   simp only[aG,gC,aB,seval,vW]
   exact hD2 _ _
  | nil=>
   have hse:=fun s=>EU ⟨r,bk,[],pr,false,ss,true,ou⟩ 5 ⟨#[102,114,97,109,101]⟩ (by simp only;omega) s
   simp only[bF,eR,sent] at hse
   cases bk with
   | false=>
    simp only[a8,dV,aG,gC,hne.symm,aB,seval,vW]
    first | exact hD2 _ _ | exact⟨rfl,hD2 _ _⟩
   | true=>
    cases td with
    | true=>
     simp only[a8,dV,aG,gC,hne.symm,aB,seval,vW]
     first | exact hD2 _ _ | exact⟨rfl,hD2 _ _⟩
    | false=>
     simp only[a8,dV,aG,gC,hne.symm,aB,seval,vW]
     refine(hse _).to ?_
     simp only[aG,gC,hne,aB,seval,vW]
     first | exact aFW _ _ _ _ | exact⟨rfl,aFW _ _ _ _⟩
theorem d3.put{st:aA}{w:Nat}{q:AV}{l:List AV}(h:d3 st w q l)(hw:∀e∈l,e.width=w){k:Nat}{e:AV}(he:l[k]?=Option.some e) :
 ∃b A B,q=.mslice b 0 l.length w∧cW q= [b]∧A.length=k*w∧st b=Option.some (.cells (A++e.cells++B))∧∀(s':aA) (e':AV),e'.width=w→s' b=Option.some (.cells (A++e'.cells++B))→d3 s' w q (l.set k e'):=by
 obtain⟨b,X,hq,hqb,hb,hA⟩:=h.split hw he
 obtain⟨hi,hei⟩:=fM.1 he
 refine⟨b,_,_,hq,hqb,hA,hb,fun s' e' he' hs'=>.inr ⟨b,_,by rw[List.length_set];exact hq,hs',?_,?_⟩⟩
 · have hl:(l.set k e').flatMap AV.cells=(l.take k).flatMap AV.cells++e'.cells++(l.drop (k+1)).flatMap AV.cells:=by
    rw[HB,aN hi];simp
   have hlen:((l.set k e').flatMap AV.cells).length=(l.set k e').length*w:=lQ fun x hx=>by
    rcases RJ hx with h | h
    · exact hw x h
    · rw[h];exact he'
   rw[←hlen,hl,←p9,List.take_left]
 · have hlen:((l.set k e').flatMap AV.cells).length=(l.set k e').length*w:=lQ fun x hx=>by
    rcases RJ hx with h | h
    · exact hw x h
    · rw[h];exact he'
   rw[←hlen,HB,aN hi]
   simp only[uB,AE,dO]
   omega
noncomputable def rG(s:Sv)(n:Int):Sv:=if 1≤n∧lT s=true then { s with cs:=s.cs.map fun c=>lW c s.quota n } else s
abbrev xL:=zi aS (zi nN (zi mF kI))
set_option maxHeartbeats 1000000 in
theorem UK(s:Sv)(n:Int)(st:aA)(h0:s.cs.length≤1048576)(hb:∀c∈s.cs,o7 c∧c.wait.length≤1048576∧c.out.length≤1000000):aD prog 15 [dZ s,.int .i64 n] st (fun r st'=>r=dZ (rG s n)∧st'=st):=by
 have hcp:=fun st=>MU s h0 (fun c hc=>(hb c hc).1) st
 have hri:=fun st=>MV s st
 have c9:lT s=true→∀c∈s.cs,lB c=true:=fun h=>by
  simp only[lT,bD,c6] at h
  exact h.1
 obtain⟨cs,qu⟩:=s
 simp only at h0 hb c9
 simp only[dZ] at hcp hri
 unfold rG
 simp only
 generalize hok:lT ⟨cs,qu⟩=ok at *
 generalize hR:(if 1≤n∧ok=true then({ cs:=cs.map fun c=>lW c qu n,quota:=qu }:Sv) else⟨cs,qu⟩)=R
 refine aD.told ?_
 unfold dZ
 refine wF [1000000,4] 2 func15 ntmps15 rfl rfl ?_
 intro _
 simp only[aB,seval,xL]
 intro b4 h4
 refine(hcp _).mono ?_
 rintro _ s1 ⟨q,rfl,G⟩
 obtain⟨C1,f1,-⟩:=(dG.one h4 _).aHQ G
 have e4:=(f1 b4 (by simp)).trans (aA.aH _ _ _)
 have A1:d3 s1 13 q (cs.map bF):=C1.acc _ (jP ..)
 obtain⟨z11,z12,z13,z14,z15⟩:=A1.shape
 have hlq:oW prog 23 q=some (.int .i64 (cs.length:Int)):=by
  have:=A1.len (P:=prog) a21
  rwa [aE] at this
 simp only[z15,aB,↓aU,seval,xL]
 have hM0:∀i,((cs.take i).map (fun c=>lW c qu n)++cs.drop i).length=cs.length:=fun i=>by simp only[dO,aE,dK,j6];omega
 have fP:∀(L:List cP) (s5:aA),dG st s5 [b4] [(13,q,L.map bF)]→∃a s2,aL (s5.aC b4 (.cells [q,.int .i64 qu])) s2∧Told (s5.aC b4 (.cells [q,.int .i64 qu])) s2 a (.agg [q,.int .i64 qu])∧a=.agg [.slice (L.map bF),.int .i64 qu]∧s2=st:=fun L s5 D=>by
  have D':=D.aC (d:=b4) (by simp) (.cells [q,.int .i64 qu])
  exact⟨_,st,D'.kO,Told.agg (.cons (D'.told (p:=(13,q,L.map bF)) (by simp) (E2 L) (uW L)) (.cons (Told.same (fun h=>D'.kO.step h) rfl) .nil)),rfl,rfl⟩
 refine dX (σ:=aA) [1000000,4] [1,2,4,5] cs (fun i p=>(¬(1≤n∧ok=true)→i=0)∧dG st p [b4] [(13,q,((cs.take i).map (fun c=>lW c qu n)++cs.drop i).map bF)]∧p b4=some (.cells [.fslice [],.int .i64 0])) (fun i _=>[(6,.int .i64 i)]) (fun _ p=>p) (by decide +kernel)
  ⟨s1,⟨fun _=>rfl,by simpa using C1,e4⟩,aO.mk (by simp only[aB,↓aU,seval])⟩ (fun i x p hx hlt bP hdr hinv=>?_) (fun p hge hinv=>?_)
 case refine_2=>
  obtain⟨hi0,C2,g2⟩:=hinv
  simp only[hge,aG,g2,z11,z12,z15,hlq,aB,seval,xL]
  rw[d6,mJ,jO] at C2
  by_cases hgo:1≤n∧ok=true
  · rw[aN hgo] at hR
    subst hR
    exact fP _ _ C2
  · rw[aK hgo] at hR
    subst hR
    have:=oQ (hi0 hgo)
    subst this
    exact fP _ _ C2
 obtain⟨hi0,C2,g2⟩:=hinv
 have aGV:¬(1≤n∧ok=true)→dG st p [b4] [(13,q,cs.map bF)]:=fun h=>by
  have:=hi0 h
  subst this
  simpa using C2
 have hwi:=bC (n:=(i:Int)+1)
 by_cases hn:1≤n
 case neg=>
  have hn':=bG hn
  rw[aK (fun h=>hn h.1)] at hR
  subst hR
  simp only[bP,hn',aZ,bB,dV,aG,g2,z11,z12,z15,hlq,aB,seval,xL]
  exact fP _ _ (aGV fun h=>hn h.1)
 have hn':=bT hn
 simp only[bP,hn',aZ,dV,z11,z12,hlq,aB,seval,xL]
 refine(hri _).to ?_
 cases ok with
 | false=>
  rw[aK (by simp)] at hR
  subst hR
  simp only[aG,g2,z15,aB,seval,xL]
  exact fP _ _ (aGV (by simp))
 | true=>
  have hMi:(((cs.take i).map (fun c=>lW c qu n)++cs.drop i).map bF)[i]?=some (bF x):=by
   rw[lK,LQ (by simp only[aE,dK];omega)]
   simp only[aE,dK,LT]
   rw[show i+(i - min i cs.length)=i by omega,hx];try rfl
  have hMs:((cs.take i).map (fun c=>lW c qu n)++cs.drop i).set i (lW x qu n)=(cs.take (i+1)).map (fun c=>lW c qu n)++cs.drop (i+1):=by
   rw[List.set_append_right _ _ (by simp only[aE,dK];omega)]
   simp only[aE,dK]
   rw[show i - min i cs.length=0 by omega,hdr,List.set_cons_zero,eS,hx]
   simp
  have A2:d3 p 13 q (((cs.take i).map (fun c=>lW c qu n)++cs.drop i).map bF):=C2.acc _ (jP ..)
  obtain⟨b,A,B,hq,hqb,hA,eb,aXO⟩:=A2.put (uW _) hMi
  rw[aE,hM0] at hq
  obtain⟨hx1,hx2,hx3⟩:=hb x (cQ hx)
  have htu:=fun s=>aQB x qu n (c9 rfl x (cQ hx)) (by omega) hx2 hx3 s
  generalize lW x qu n=y at *
  have hat:=B3 (P:=prog) (b:=b) (len:=cs.length) (w:=13) (i:=i) pB hlt
  rw[←hq] at hat
  simp only[bF] at htu
  replace eb:p b=some (.cells (A++eR x++B)):=eb
  have p2:i*13+13≤(A++eR x++B).length:=by simp only[dO,eR,aX,a8];omega
  have p4:((A++eR x++B).drop (i*13)).take 13=eR x:=by rw[p9,List.drop_left' hA];try rfl
  have p5:aG (A++eR x++B) (i*13) (eR y)=A++eR y++B:=(PF (C:=eR x) (x:=eR y) hA rfl rfl).1
  simp only[aB,seval]
  refine wX [(0,1),(1,1),(2,1),(3,1),(4,1),(5,1),(6,1),(8,1),(9,1),(10,1),(7,0),(11,0),(12,1),(13,2)] [0,1,2,3,4,5,6,8,9,10,12] eF mixed rfl d4 ?_
  simp only[z11,z12,hat,eb,p2,p4,aB,seval,xL]
  refine⟨d4,?_⟩
  refine(htu _).to ?_
  simp only[hat,eb,p2,p5,hwi,aB,seval,xL]
  obtain⟨C3,k3,-⟩:=C2.grow (s':=p.aC b (.cells (A++eR y++B))) (q':=q) (aXO _ (bF y) rfl (aA.aH _ _ _)) (fun z hz _=>aA.aJ _ _ (by rintro rfl;exact hz (by rw[hqb];simp))) (fun z hz=>.inl hz)
  rw[←List.map_set,hMs] at C3
  have g3:=(k3 b4 (by simp)).trans g2
  exact⟨d4,rfl,US y,p.aC b (.cells (A++eR y++B)),⟨C3,g3⟩,aO.mk (by simp only[aB,seval])⟩
abbrev a2I:=zi aS (zi gD (zi kH (zi tZ QV)))
theorem aRP(bs:List Bt)(c p:Nat)(hp:p≤1099511627776)(st:aA)(h:fH st c bs p) :
 aD prog 33 [.ptr c 0,.int .i64 0] st (fun r st'=>r=.int .i64 0∧st'=st.aC c (fO bs (p+1))):=by
 unfold fH at h
 refine wF [1000000] 2 func33 ntmps33 rfl rfl ?_
 intro _
 have hw1:IntKind.i64.wrap ((p:Int)+1)=(p:Int)+1:=wrap64 (by omega) (by omega)
 have hrd:fO bs (p+1)=.cells [.slice (bs.map bJ),.int .i64 ((p:Int)+1)]:=by simp [fO]
 rw[hrd]
 have h1:=bT (show(0:Int)<1 by decide)
 simp only[h1,aZ,aG,h,hw1,aB,seval,a2I]
theorem UC(bs:List Bt)(c p:Nat)(hp:p≤1099511627776)(n:Nat)(hn2:n≤1048576)(st:aA)(h:fH st c bs p) :
 aD prog 33 [.ptr c 0,.int .i64 (n:Int)] st (fun r st'=>∃k:Nat,k≤n∧r=.int .i64 (k:Int)∧st'=st.aC c (fO bs (p+1))):=by
 by_cases hn:n=0
 · subst hn
   refine(aRP bs c p hp st h).mono ?_
   rintro _ _ ⟨rfl,rfl⟩
   exact⟨0,cX _,rfl,rfl⟩
 · refine(s9 bs c p hp n (by omega) hn2 st h).mono ?_
   rintro _ _ ⟨k,hk,rfl,rfl⟩
   exact⟨k,by omega,rfl,rfl⟩
theorem aK6{t:Tm}(h:t.valid=true):uI (tx 1000) t:=by
 have hw:Ws t:=⟨30,by simp only[Tm.valid,bD] at h;exact h.1⟩
 have hn:=Tm.rH h
 exact⟨fun st=>M0 1000 t st hw (by omega) (by omega),xP 1000 t hw,Q5 hw (by omega),by omega⟩
theorem aJB{q:List Tm}(h:∀x∈q,x.valid=true):bH Tm.nodes q≤120*q.length:=by
 induction q with
 | nil=>simp [bH]
 | cons x q ih=>
  have h1:=ih fun y hy=>h y (by simp [hy])
  have h2:=Tm.rH (h x (by simp))
  simp only[bH,aX]
  omega
theorem TI(q:List Tm)(hq:eP q=true)(st:aA):aD prog 164 [.slice (q.map Tm.av)] st (fun r st'=>(∃t:ByteArray,t.size≤100000∧r=.str t)∧st'=st):=by
 obtain⟨q1,q2⟩:=JW hq
 have hv:∀x∈q,x.valid=true:=fun x hx=>by
  simp only[eP,bD,c6] at hq
  exact Tm.FA (hq.2 x hx)
 have hn:=aJB hv
 have hsz:=EQ (T:=tx 1000) (l:=q) fun x hx=>(aK6 (hv x hx)).2.1
 have hc:=fun s=>MZ q (fun x hx=>aK6 (hv x hx)) (by omega) (by omega) s
 refine wF [1000000] 1 func164 ntmps164 rfl rfl ?_
 intro _
 simp only[aB,seval]
 refine(hc _).to ?_
 simp only[aB,seval]
 exact⟨_,by omega,rfl⟩
theorem aOE{h:ByteArray}{l:List Tm}(hl:∀x∈l,(kJ x).size≤32*x.nodes):(o0 kJ h l).size≤h.size+2+32*bH Tm.nodes l+l.length:=by
 have hg:∀(xs:List Tm) (o:ByteArray),(∀x∈xs,(kJ x).size≤32*x.nodes)→(xs.foldl (fun o y=>(o++⟨#[44]⟩)++kJ y) o).size≤o.size+32*bH Tm.nodes xs+xs.length:=by
  intro xs
  induction xs with
  | nil=>intro o _;simp [bH]
  | cons y ys ih=>
   intro o hy
   have h1:=ih ((o++⟨#[44]⟩)++kJ y) fun z hz=>hy z (by simp [hz])
   have h2:=hy y (by simp)
   rw[cG,cG] at h1
   have h3:(⟨#[44]⟩:ByteArray).size=1:=rfl
   simp only[uC,bH,aX]
   omega
 cases l with
 | nil=>simp [o0,bH]
 | cons x xs=>
  have h1:=hg xs ((h++⟨#[58,45]⟩)++kJ x) fun z hz=>hl z (by simp [hz])
  have h2:=hl x (by simp)
  rw[cG,cG] at h1
  have h3:(⟨#[58,45]⟩:ByteArray).size=2:=rfl
  simp only[o0,bH,aX]
  omega
theorem aSN{c:Cl}(h:jS c=true):(BN c).size≤28000∧((Ws c.1∧c.1.nodes≤120)∧c.2.length≤6∧∀x∈c.2,Ws x∧x.nodes≤120):=by
 have h':=h
 simp only[jS,bD,bA,c6] at h'
 have hw:∀ {t:Tm},t.valid=true→Ws t:=fun {t} h=>⟨30,by simp only[Tm.valid,bD] at h;exact h.1⟩
 have hv:∀x∈c.2,x.valid=true:=fun x hx=>Tm.FA (h'.2.2 x hx)
 have hn:=aJB hv
 have h1:(kJ c.1).size≤32*c.1.nodes:=xP 130 c.1 (hw h'.1.1)
 have h2:=aOE (h:=kJ c.1) (l:=c.2) fun x hx=>xP 130 x (hw (hv x hx))
 have h3:=Tm.rH h'.1.1
 refine⟨?_,⟨hw h'.1.1,h3⟩,h'.2.1,fun x hx=>⟨hw (hv x hx),Tm.rH (hv x hx)⟩⟩
 unfold BN
 rw[cG]
 have h4:(⟨#[46]⟩:ByteArray).size=1:=rfl
 omega
abbrev QE:=zi aS (zi cH (zi jK lV))
theorem aRV(p:List Cl)(hp:fD p=true)(st:aA):aD prog 163 [.slice (p.map aF)] st (fun r st'=>(∃t:ByteArray,t.size≤1000000∧r=.str t)∧st'=st):=by
 have hpv:=fun s=>H5 p s
 rw[hp] at hpv
 have hp':=hp
 simp only[fD,bD,bA,c6] at hp'
 have hm:maxLen=9223372036854775807:=by rfl
 refine wF [1000000] 1 func163 ntmps163 rfl rfl ?_
 intro _
 simp only[aB,seval]
 refine dX (σ:=ByteArray) [1000000] [0,2] p (fun i t=>t.size≤28001*i) (fun i t=>[(3,.str t),(4,.int .i64 i)]) (fun _ _=>st) (by decide +kernel) ⟨⟨#[]⟩,by show(0:Nat)≤_;omega,aO.mk (by simp only[aB,↓aU,seval])⟩ (fun i x t hx hlt bP hdr hinv=>?_) (fun t hge hinv=>?_)
 case refine_2=>
  simp only[hge,aE,aB,seval,QE]
  exact⟨t,by omega,rfl⟩
 have hw:=bC (n:=(i:Int)+1)
 obtain⟨x1,x2⟩:=aSN (hp'.2 x (cQ hx))
 have hlt:=fun s=>T0 x x2 s
 have hat:=bS (av:=aF) (P:=prog) m9 hx (gM x)
 generalize BN x=T at *
 have k1:t.size+T.size≤maxLen:=by omega
 have k2:(t++T).size+(⟨#[10]⟩:ByteArray).size≤maxLen:=by rw[cG];show _+1≤_;omega
 simp only[bP,aZ,dV,aE,aB,seval,QE]
 refine(hpv _).to ?_
 simp only[hat,gM,nY,aB,seval,QE]
 refine(hlt _).to ?_
 simp only[↓reduceIte,hw,k1,k2,aB,seval]
 refine⟨(t++T)++⟨#[10]⟩,?_,aO.mk (by simp only[aB,seval])⟩
 rw[cG,cG]
 show _+_+1≤_
 omega

theorem aZT{x y:Nat}(hx:x<256)(hy:y<256):EI .i64 ((x:Int)*256) (y:Int)=(x:Int)*256+(y:Int):=by
 unfold EI
 have h1:(BitVec.ofInt IntKind.i64.bits ((x:Int)*256))=BitVec.ofNat IntKind.i64.bits (x*256):=by
  rw[show(x:Int)*256=((x*256:Nat):Int) by omega,LK]
 have h2:(BitVec.ofInt IntKind.i64.bits (y:Int))=BitVec.ofNat IntKind.i64.bits y:=LK ..
 have hb:IntKind.i64.bits=64:=rfl
 rw[h1,h2,BitVec.toNat_or,LM,LM,hb,D1 (by omega),D1 (by omega)]
 have h3:x*256 ||| y=x*256+y:=by
  have:=Nat.shiftLeft_add_eq_or_of_lt (i:=8) (b:=y) (by omega) x
  rw[Nat.shiftLeft_eq] at this
  exact this.symm
 rw[h3,wrap64 (by omega) (by omega)]
 omega
theorem a07{x:Nat}(hx:x<256):A7 .shl .i64 (x:Int) 8=some (.int .i64 ((x:Int)*256)):=by
 unfold A7
 rw[aK (by omega)]
 show some (AV.int .i64 (IntKind.i64.wrap ((x:Int)*256)))=_
 rw[wrap64 (by omega) (by omega)]
def pQ:List (Fin 256)→Int
 | x::y::_=>(x.val:Int)*256+(y.val:Int)
 | _=> -1
def wH(x:Fin 256):AV:=.int .u8 (x.val:Int)
theorem aSQ(x:Fin 256):lM prog 5 3 (.int .u8 (x.val:Int))=some (.int .i64 (x.val:Int)):=by
 have h:=x.isLt
 have hw:=bC (n:=(x.val:Int))
 unfold lM
 simp only[Q7,uU3,hw]
abbrev KA:=zi aS (zi gD (zi kH a2S))
theorem aRK(l:List (Fin 256))(st:aA):aD prog 98 [.slice (l.map wH)] st (fun r st'=>r=.int .i64 (pQ l)∧st'=st):=by
 refine wF [1000000] 1 func98 ntmps98 rfl rfl ?_
 simp only[dS,AV.fits,dU,aE]
 intro ⟨hl,_⟩
 match l,hl with
 | [],_=> 
  simp only[bE,a8,aB,seval,KA]
  rfl
 | [x],_=> 
  simp only[bL,bE,a8,aX,aB,↓aU,seval,KA]
  rfl
 | x::y::r,hl=>
  have h1:=bG (show ¬(((x::y::r).length:Int)<2) by simp only[aX];omega)
  have gO:dT prog 22 (.slice ((x::y::r).map wH)) (.int .i64 0)=some (.pptr (wH x)):=bS (av:=wH) (i:=0) iK rfl rfl
  have kS:dT prog 22 (.slice ((x::y::r).map wH)) (.int .i64 1)=some (.pptr (wH y)):=bS (av:=wH) (i:=1) iK rfl rfl
  have hs:=a07 x.isLt
  have ho:=aZT x.isLt y.isLt
  generalize hL:x::y::r=L at *
  simp only[h1,bB,aE,aB,seval,KA]
  refine wP [(0,1),(1,1),(5,1),(6,1),(2,2),(3,1),(4,1),(7,2),(8,1),(9,1),(10,1)] [0,1,5,6,2,3,4,7,8,9,10] mixed ?_
  simp only[gO,kS,wH,hs,ho,aSQ,aB,seval,KA]
  rw[←hL]
  try rfl
theorem aM4{st:aA}{l:List Bt}{K:AV→aA→Prop}(hb:l.length≤4194304)(hK:∀b,(l.map bJ≠[]→st b=none)→K (bK 1 b (l.map bJ)) (a9 st b (l.map bJ))) :
 iT prog 22 st (.fslice []) (.slice (l.map bJ)) K:=by
 have:=eY (P:=prog) (st:=st) (b:=0) (l:=[]) (xs:=l.map bJ) (x:=.slice (l.map bJ)) (K:=K) iK qN qP rfl rfl (sZ l) (by simp) (by simp) (by simp only[a8,aE];omega) (by simp only[a8,aE];omega) (fun b hb=>by rw[dL] at hb ⊢;exact hK b hb)
 exact this
theorem aRL(l:List Bt)(st:aA):aD prog 98 [bZ l] st (fun r st'=>r=.int .i64 (pQ l)∧st'=st):=aRK l st
theorem aG5{b:List Bt}(h:b.length<2):pQ b= -1:=by
 match b,h with
 | [],_=>rfl
 | [x],_=>rfl
theorem aG4{b:List Bt}(h:¬b.length<2):pQ b=(eO b:Int):=by
 rcases b with _ | ⟨x,_ | ⟨y,r⟩⟩
 · simp at h
 · simp at h
 · simp [pQ,eO]
theorem aYM(b:List Bt):eO b<65536:=by
 rcases b with _ | ⟨x,_ | ⟨y,r⟩⟩
 · simp [eO]
 · simp [eO]
 · have:=x.isLt;have:=y.isLt;simp only[eO];omega
theorem aZC{b:List Bt}:jH b=0↔(pQ b<0∨((1≤pQ b∧pQ b≤2001)∧(b.length:Int)<pQ b+2)):=by
 by_cases h0:b.length<2
 · rw[JJ h0,aG5 h0];simp
 rw[aG4 h0]
 by_cases h1:eO b<1∨2001<eO b
 · rw[CH h0 h1];omega
 by_cases h2:b.length<2+eO b
 · rw[JK h0 h1 h2];omega
 rw[O3 h0 h1 h2]
 split<;>omega
abbrev KB:=zi aS (zi bV (zi kH rE))
theorem aPG(r:List Bt)(k:Bool)(st:aA)(hr:r.length≤4194304):aD prog 96 [o8 r k] st (fun x st'=>x=.bool (rY r k)∧st'=st):=by
 have hwi:=wI (pQ r) 1 2001
 have hlo:=aRL r st
 have hz:=aZC (b:=r)
 have hlt:pQ r<65536∧-1≤pQ r:=by
  have:=aYM r
  by_cases h:r.length<2
  · rw[aG5 h];omega
  · rw[aG4 h];omega
 unfold o8
 refine wF [1000000] 1 func96 ntmps96 rfl rfl ?_
 intro _
 simp only[aB,seval,KB]
 unfold rY
 cases k with
 | true=>
  have hz:decide ((r.length:Int)=0)=r.isEmpty:=by cases r with
   | nil=>rfl
   | cons x l=>simp;omega
  simp only[hz,aE,aB,seval,KB]
 | false=>
  generalize pQ r=L at *
  have hw:=bC (n:=L+2)
  simp only[aB,seval,KB]
  refine hlo.to ?_
  simp only[aB,seval]
  by_cases h1:L<0
  case pos=>
   have hd:decide (jH r=0)=true:=d9 (hz.2 (.inl h1))
   have h1':=bT h1
   simp only[h1',aZ,hd,aB,seval]
  have h1':=bG h1
  by_cases h2:1≤L∧L≤2001
  case neg=>
   have hd:decide (jH r=0)=false:=eM (fun e=>by rcases hz.1 e with h | h<;>omega)
   have hb:(decide (1≤L)&&decide (L≤2001))=false:=by
    cases hx:(decide (1≤L)&&decide (L≤2001)) with
    | false=>rfl
    | true=>simp only[bD,bA] at hx;exact absurd hx h2
   rw[hb] at hwi
   simp only[h1',bB,aB,seval]
   refine(hwi _).to ?_
   simp only[hd,iF,aB,seval]
  have hb:(decide (1≤L)&&decide (L≤2001))=true:=by simp only[bD,bA];exact h2
  rw[hb] at hwi
  have hd:decide ((r.length:Int)<L+2)=decide (jH r=0):=by
   rw[qM,hz]
   omega
  simp only[h1',bB,aB,seval]
  refine(hwi _).to ?_
  simp only[hd,iF,aE,hw,aB,seval,KB]

end Go.AW
