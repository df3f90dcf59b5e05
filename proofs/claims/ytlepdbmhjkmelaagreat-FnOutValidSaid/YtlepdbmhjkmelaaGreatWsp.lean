import Derived.Test.YtlepdbmhjkmelaaGreatWso
import Derived.Test.YtlepdbmhjkmelaaGreatWsn
import Derived.Test.YtlepdbmhjkmelaaGreatWsk
import Derived.Test.YtlepdbmhjkmelaaGreatWsh
set_option linter.unusedSimpArgs false
set_option linter.unusedVariables false
set_option maxRecDepth 100000
namespace Go.AW
open Go.Proofs.Tryz
theorem c9.erase{st s:aA}{ds:List Nat}{ps:List (Nat×AV×List AV)}{w:Nat}{q:AV}{l:List AV}(C:c9 st s ds ((w,q,l)::ps)) :
 ∃s0,aJ s s0∧c9 st s0 ds ps∧(∀d∈ds,s0 d=s d)∧∀y∈cP q,s0 y=none:=by
 have hap:=CS.1 C.apart
 have hf:=C.fresh _ (iZ ..)
 refine⟨fun y=>if y∈cP q then none else s y,fun y=>⟨fun h=>?_,fun o h=>?_⟩,⟨fun p hp=>?_,hap.2,fun p hp=>C.fresh p (y6 _ hp),fun d hd=>⟨(C.left d hd).1,?_⟩,fun y o h=>?_⟩,fun d hd=>?_,fun y hy=>?_⟩
 · by_cases hy:y∈cP q<;>simp [hy,h]
 · by_cases hy:y∈cP q
   · simp [hy] at h
   · simpa [hy] using h
 · exact(C.acc p (y6 _ hp)).bJ fun y hy=>aH fun h=>hap.1 p hp y h hy
 · have:d∉cP q:=fun h=>(hf d h).2 hd
   simp only[this,eA]
   exact(C.left d hd).2
 · have:y∉cP q:=fun hy=>by rw[(hf y hy).1] at h;cases h
   simp only[this,eA]
   exact C.bJ y o h
 · have:d∉cP q:=fun h=>(hf d h).2 hd
   simp only[this,eA]
 · simp only[hy,fQ]
theorem G0(c:dT)(k:Int)(t:ByteArray)(ho:c.out.length≤1048576){st s:aA}{ds:List Nat}{q:AV}(C:c9 st s ds [(2,q,c.wait.map bC)]) :
 aD prog 219 [.agg [bT c.rest,.bool c.brk,q,.slice (c.prog.map aF),.bool c.act,.slice (c.ses.p.map aF),.slice (c.ses.q.map Tm.av),.int .i64 c.ses.quota,.int .i64 c.ses.used,.int .i64 c.ses.sent,.int .i64 c.ses.fin,.bool c.told,bA c.out],.int .i64 k,.str t] s (fun r s'=>r=bV (sent c k t)∧c9 st s' ds []∧∀d∈ds,s' d=s d):=by
 obtain⟨s0,D,C0,k0,e0⟩:=C.erase
 have T:=fun h=>D.step h
 have S:∀ {a:AV},a.bO=false→Told s s0 a a:=fun h=>Told.same T h
 have tq:Told s s0 (bA c.wait) q:=Told.acc D (C.acc (2,q,c.wait.map bC) (by simp)) e0 (mC _) (kP _)
 have hv:dA s s0 [bV c,.int .i64 k,.str t] [.agg [bT c.rest,.bool c.brk,q,.slice (c.prog.map aF),.bool c.act,.slice (c.ses.p.map aF),.slice (c.ses.q.map Tm.av),.int .i64 c.ses.quota,.int .i64 c.ses.used,.int .i64 c.ses.sent,.int .i64 c.ses.fin,.bool c.told,bA c.out],.int .i64 k,.str t]:=
  .cons (Told.agg (.cons (S rfl) (.cons (S rfl) (.cons tq (.cons (S rfl) (.cons (S rfl) (.cons (S rfl) (.cons (S rfl) (.cons (S rfl) (.cons (S rfl) (.cons (S rfl) (.cons (S rfl) (.cons (S rfl) (.cons (S rfl) .nil)))))))))))))) (.cons (S rfl) (.cons (S rfl) .nil))
 refine aD.aFH D (fun h vs S y=>hv.rel h vs S y) ((DS c k t ho s0).mono ?_)
 rintro r s' ⟨rfl,rfl⟩
 exact⟨rfl,C0,k0⟩
theorem aM5(c:dT)(hp0:c.prog= [])(k:Int)(t:ByteArray)(ho:c.out.length≤1048576){st s:aA}{ds:List Nat}{q:AV}(C:c9 st s ds [(2,q,c.wait.map bC)]) :
 aD prog 219 [.agg [bT c.rest,.bool c.brk,q,.fslice [],.bool c.act,.slice (c.ses.p.map aF),.slice (c.ses.q.map Tm.av),.int .i64 c.ses.quota,.int .i64 c.ses.used,.int .i64 c.ses.sent,.int .i64 c.ses.fin,.bool c.told,bA c.out],.int .i64 k,.str t] s (fun r s'=>r=bV (sent c k t)∧c9 st s' ds []∧∀d∈ds,s' d=s d):=by
 obtain⟨s0,D,C0,k0,e0⟩:=C.erase
 have T:=fun h=>D.step h
 have S:∀ {a:AV},a.bO=false→Told s s0 a a:=fun h=>Told.same T h
 have tq:Told s s0 (bA c.wait) q:=Told.acc D (C.acc (2,q,c.wait.map bC) (by simp)) e0 (mC _) (kP _)
 have t0:Told s s0 (.slice (c.prog.map aF)) (.fslice []):=by
  rw[hp0]
  exact⟨rfl,rfl,rfl,fun h cs S y=>VC.mono (T h) _ _ (VC.soft (.fslice []) cs y)⟩
 have hv:dA s s0 [bV c,.int .i64 k,.str t] [.agg [bT c.rest,.bool c.brk,q,.fslice [],.bool c.act,.slice (c.ses.p.map aF),.slice (c.ses.q.map Tm.av),.int .i64 c.ses.quota,.int .i64 c.ses.used,.int .i64 c.ses.sent,.int .i64 c.ses.fin,.bool c.told,bA c.out],.int .i64 k,.str t]:=
  .cons (Told.agg (.cons (S rfl) (.cons (S rfl) (.cons tq (.cons t0 (.cons (S rfl) (.cons (S rfl) (.cons (S rfl) (.cons (S rfl) (.cons (S rfl) (.cons (S rfl) (.cons (S rfl) (.cons (S rfl) (.cons (S rfl) .nil)))))))))))))) (.cons (S rfl) (.cons (S rfl) .nil))
 refine aD.aFH D (fun h vs S y=>hv.rel h vs S y) ((DS c k t ho s0).mono ?_)
 rintro r s' ⟨rfl,rfl⟩
 exact⟨rfl,C0,k0⟩
theorem aW0{P:Program}{t:TypeId}{ag:Bool}{φ:AF}{l:List Fr}(hI:eI P t=some (ag,2))(hl:1≤l.length):fJ P φ t (.slice (l.map bC)) (some (.const (.int .i64 1))) none none=some (.slice ((l.drop 1).map bC)):=by
 have b1:cU φ none (l.map bC).length (l.map bC).length=some (l.map bC).length:=rfl
 have b3:cU φ (some (.const (.int .i64 1))) 0 (l.map bC).length=some 1:=by
  show(if((0:Nat):Int)≤1∧(1:Int)≤((l.map bC).length:Int) then some (Int.toNat 1) else none)=some 1
  rw[aE,aN ⟨by omega,by omega⟩]
  try rfl
 have hwo:oC (l.map bC) 1 2=true:=by
  unfold oC
  rw[mI]
  cases l[1]?<;>rfl
 unfold fJ l5
 rw[aH (by simp [nO])]
 simp only[hI,b1,b3,hwo]
 rw[dR]
 simp
noncomputable def xK(c:dT)(f:Fr)(w:List Fr)(qu:Int):dT:=
 if f.1=1 then(match nW (sb f.2) with
  | some p=>sent { c with wait:=w,prog:=p } 4 ⟨#[]⟩
  | none=>sent { c with wait:=w } 5 ⟨#[112,114,111,103,114,97,109]⟩)
 else if f.1=2 then(match kR (sb f.2) with
  | some q=>{ c with wait:=w,ses:=sJ c.prog q qu,act:=true }
  | none=>sent { c with wait:=w } 5 ⟨#[113,117,101,114,121]⟩)
 else if f.1=3 then sent { c with wait:=w,prog:=[] } 4 ⟨#[]⟩
 else sent { c with wait:=w } 5 ⟨#[116,121,112,101]⟩
abbrev lV:=zi aX (zi cD (zi gE (zi cG (zi lK (zi cI (zi kU (zi lZ (zi uW (zi p8 (zi aIL (zi aIG (zi aX1 (zi aX2 O1)))))))))))))
set_option maxHeartbeats 1000000 in
theorem aM3(c:dT)(f:Fr)(w:List Fr)(qu:Int)(hw:c.wait=f::w)(hwl:w.length≤1048576)(hf:f.2.size≤100000)(ho:c.out.length≤1000000)(st:aA):aD prog 218 [bV c,.int .i64 qu] st (fun r st'=>r=bV (xK c f w qu)∧st'=st):=by
 obtain⟨r,bk,wt,pr,ac,ss,td,ou⟩:=c
 simp only at hw ho
 subst hw
 obtain⟨fk,ft⟩:=f
 simp only at hf
 have hpp:=fun s=>Q8 ft hf s
 have hpq:=fun s=>LA ft s
 have hop:=fun q s=>aOQ pr q qu s
 simp only[bV,eU]
 have hat:dP prog 39 (.slice (((fk,ft)::w).map bC)) (.int .i64 0)=some (.pptr (.agg [.int .i64 fk,.str ft])):=bR (av:=bC) (i:=0) (l:=(fk,ft)::w) jQ rfl rfl
 have hsl:=fun φ=>aW0 (P:=prog) (φ:=φ) (l:=(fk,ft)::w) jQ (by simp)
 simp only[List.drop_succ_cons,rL] at hsl
 refine aD.told ?_
 refine wF [1000000,2] 2 func218 ntmps218 rfl rfl ?_
 intro _
 simp only[aB,seval,lV]
 intro b2 h2 b4 h4
 have hne:b4≠b2:=by rintro rfl;rw[aA.aK] at h4;cases h4
 have C0:c9 st ((st.aC b2 (.cells [bT r,.bool bk,bA ((fk,ft)::w),.slice (pr.map aF),.bool ac,.slice (ss.p.map aF),.slice (ss.q.map Tm.av),.int .i64 ss.quota,.int .i64 ss.used,.int .i64 ss.sent,.int .i64 ss.fin,.bool td,bA ou])).aC b4 (.cells [.fslice [],.bool false,.fslice [],.fslice [],.bool false,.fslice [],.fslice [],.int .i64 0,.int .i64 0,.int .i64 0,.int .i64 0,.bool false,.fslice []])) [b2,b4] []:=EW h2 h4
 have e0:((st.aC b2 (.cells [bT r,.bool bk,bA ((fk,ft)::w),.slice (pr.map aF),.bool ac,.slice (ss.p.map aF),.slice (ss.q.map Tm.av),.int .i64 ss.quota,.int .i64 ss.used,.int .i64 ss.sent,.int .i64 ss.fin,.bool td,bA ou])).aC b4 (.cells [.fslice [],.bool false,.fslice [],.fslice [],.bool false,.fslice [],.fslice [],.int .i64 0,.int .i64 0,.int .i64 0,.int .i64 0,.bool false,.fslice []])) b2=some (.cells [bT r,.bool bk,bA ((fk,ft)::w),.slice (pr.map aF),.bool ac,.slice (ss.p.map aF),.slice (ss.q.map Tm.av),.int .i64 ss.quota,.int .i64 ss.used,.int .i64 ss.sent,.int .i64 ss.fin,.bool td,bA ou]):=by rw[aA.aO _ _ hne.symm,aA.aK]
 have g0:((st.aC b2 (.cells [bT r,.bool bk,bA ((fk,ft)::w),.slice (pr.map aF),.bool ac,.slice (ss.p.map aF),.slice (ss.q.map Tm.av),.int .i64 ss.quota,.int .i64 ss.used,.int .i64 ss.sent,.int .i64 ss.fin,.bool td,bA ou])).aC b4 (.cells [.fslice [],.bool false,.fslice [],.fslice [],.bool false,.fslice [],.fslice [],.int .i64 0,.int .i64 0,.int .i64 0,.int .i64 0,.bool false,.fslice []])) b4=some (.cells [.fslice [],.bool false,.fslice [],.fslice [],.bool false,.fslice [],.fslice [],.int .i64 0,.int .i64 0,.int .i64 0,.int .i64 0,.bool false,.fslice []]):=aA.aK _ _ _
 generalize (st.aC b2 (.cells [bT r,.bool bk,bA ((fk,ft)::w),.slice (pr.map aF),.bool ac,.slice (ss.p.map aF),.slice (ss.q.map Tm.av),.int .i64 ss.quota,.int .i64 ss.used,.int .i64 ss.sent,.int .i64 ss.fin,.bool td,bA ou])).aC b4 (.cells [.fslice [],.bool false,.fslice [],.fslice [],.bool false,.fslice [],.fslice [],.int .i64 0,.int .i64 0,.int .i64 0,.int .i64 0,.bool false,.fslice []])=s0 at *
 simp only[e0,hat,hsl,aB,↓a9,seval,lV]
 refine dK.pH (w:=2) (l:=[]) (xs:=w.map bC) jQ nJ nK rfl (by decide) (.inl ⟨rfl,rfl⟩) rfl (t5 w) (by simp only[aW,aE];omega) (fun q s1 A1 K1 F1=>?_)
 rw[dI] at A1
 obtain⟨C1,f1,-⟩:=(C0.new 2).grow A1 K1 F1
 have e1:=(f1 b2 (by simp)).trans e0
 have g1:=(f1 b4 (by simp)).trans g0
 obtain⟨z11,z12,z13,z14,z15⟩:=A1.shape
 simp only[aG,e1,z14,z15,aB,seval,lV]
 have C2:=C1.aC (d:=b2) (by simp) (.cells [bT r,.bool bk,q,.slice (pr.map aF),.bool ac,.slice (ss.p.map aF),.slice (ss.q.map Tm.av),.int .i64 ss.quota,.int .i64 ss.used,.int .i64 ss.sent,.int .i64 ss.fin,.bool td,bA ou])
 have e2:(s1.aC b2 (.cells [bT r,.bool bk,q,.slice (pr.map aF),.bool ac,.slice (ss.p.map aF),.slice (ss.q.map Tm.av),.int .i64 ss.quota,.int .i64 ss.used,.int .i64 ss.sent,.int .i64 ss.fin,.bool td,bA ou])) b2=some (.cells [bT r,.bool bk,q,.slice (pr.map aF),.bool ac,.slice (ss.p.map aF),.slice (ss.q.map Tm.av),.int .i64 ss.quota,.int .i64 ss.used,.int .i64 ss.sent,.int .i64 ss.fin,.bool td,bA ou]):=aA.aK _ _ _
 have g2:=(aA.aO s1 (.cells [bT r,.bool bk,q,.slice (pr.map aF),.bool ac,.slice (ss.p.map aF),.slice (ss.q.map Tm.av),.int .i64 ss.quota,.int .i64 ss.used,.int .i64 ss.sent,.int .i64 ss.fin,.bool td,bA ou]) hne).trans g1
 generalize s1.aC b2 (.cells [bT r,.bool bk,q,.slice (pr.map aF),.bool ac,.slice (ss.p.map aF),.slice (ss.q.map Tm.av),.int .i64 ss.quota,.int .i64 ss.used,.int .i64 ss.sent,.int .i64 ss.fin,.bool td,bA ou])=s2 at *
 have fO:∀(c:dT) (s5:aA),c9 st s5 [b2,b4] []→s5 b4=some (.cells [.fslice [],.bool false,.fslice [],.fslice [],.bool false,.fslice [],.fslice [],.int .i64 0,.int .i64 0,.int .i64 0,.int .i64 0,.bool false,.fslice []])→∃a s2,aJ (s5.aC b4 (.cells (eU c))) s2∧Told (s5.aC b4 (.cells (eU c))) s2 a (.agg (eU c))∧a=.agg (eU c)∧s2=st:=fun c s5 D g=>by
  have D':=D.aC (d:=b4) (by simp) (.cells (eU c))
  exact⟨_,st,D'.j7,Told.same (fun h=>D'.j7.step h) rfl,rfl,rfl⟩
 by_cases hk1:fk=1
 · have hk:=bP hk1
   unfold xK
   rw[aN hk1]
   simp only[hk,aV,aB,seval,lV]
   refine(hpp _).mono ?_
   rintro _ s3 ⟨hr,rfl⟩
   cases hT:nW (sb ft) with
   | none=>
    rw[hT] at hr
    simp only[zB] at hr
    subst hr
    simp only[fM,e2,aB,seval,lV]
    refine(G0 ⟨r,bk,w,pr,ac,ss,td,ou⟩ 5 ⟨#[112,114,111,103,114,97,109]⟩ (by simp only;omega) C2).mono ?_
    rintro _ s3 ⟨rfl,C3,k3⟩
    have g3:=(k3 b4 (by simp)).trans g2
    simp only[bV,eU,sent]
    simp only[aG,g3,aB,seval,lV]
    exact fO ⟨r,bk,w,pr,ac,ss,td,ou++ [(5,⟨#[112,114,111,103,114,97,109]⟩)]⟩ s3 C3 g3
   | some p=>
    rw[hT] at hr
    simp only[zB] at hr
    subst hr
    simp only[fA,aG,e2,aB,seval,lV]
    refine(G0 ⟨r,bk,w,p,ac,ss,td,ou⟩ 4 ⟨#[]⟩ (by simp only;omega) (C2.aC (d:=b2) (by simp) (.cells [bT r,.bool bk,q,.slice (p.map aF),.bool ac,.slice (ss.p.map aF),.slice (ss.q.map Tm.av),.int .i64 ss.quota,.int .i64 ss.used,.int .i64 ss.sent,.int .i64 ss.fin,.bool td,bA ou]))).mono ?_
    rintro _ s4 ⟨rfl,C3,k3⟩
    have g3:=(k3 b4 (by simp)).trans ((aA.aO _ _ hne).trans g2)
    simp only[bV,eU,sent]
    simp only[aG,g3,aB,seval,lV]
    exact fO ⟨r,bk,w,p,ac,ss,td,ou++ [(4,⟨#[]⟩)]⟩ s4 C3 g3
 have hk:=bB hk1
 by_cases hk2:fk=2
 · have hk':=bP hk2
   unfold xK
   rw[aH hk1,aN hk2]
   simp only[hk,hk',aV,a8,aB,seval,lV]
   refine(hpq _).to ?_
   cases hT:kR (sb ft) with
   | none=>
    simp only[wO]
    simp only[fM,e2,aB,seval,lV]
    refine(G0 ⟨r,bk,w,pr,ac,ss,td,ou⟩ 5 ⟨#[113,117,101,114,121]⟩ (by simp only;omega) C2).mono ?_
    rintro _ s4 ⟨rfl,C3,k3⟩
    have g3:=(k3 b4 (by simp)).trans g2
    simp only[bV,eU,sent]
    simp only[aG,g3,aB,seval,lV]
    exact fO ⟨r,bk,w,pr,ac,ss,td,ou++ [(5,⟨#[113,117,101,114,121]⟩)]⟩ s4 C3 g3
   | some qq=>
    simp only[wO]
    simp only[fA,e2,aB,seval,lV]
    refine(hop qq _).to ?_
    generalize sJ pr qq qu=S1 at *
    simp only[kG]
    have g2':=fun X=>(aA.aO s2 X hne).trans g2
    simp only[aG,e2,g2',z15,aB,↓a9,seval,lV]
    have D':=(C2.aC (d:=b2) (by simp) (.cells [bT r,.bool bk,q,.slice (pr.map aF),.bool true,.slice (S1.p.map aF),.slice (S1.q.map Tm.av),.int .i64 S1.quota,.int .i64 S1.used,.int .i64 S1.sent,.int .i64 S1.fin,.bool td,bA ou])).aC (d:=b4) (by simp) (.cells [bT r,.bool bk,q,.slice (pr.map aF),.bool true,.slice (S1.p.map aF),.slice (S1.q.map Tm.av),.int .i64 S1.quota,.int .i64 S1.used,.int .i64 S1.sent,.int .i64 S1.fin,.bool td,bA ou])
    have S:∀ {a:AV},a.bO=false→Told ((s2.aC b2 (.cells [bT r,.bool bk,q,.slice (pr.map aF),.bool true,.slice (S1.p.map aF),.slice (S1.q.map Tm.av),.int .i64 S1.quota,.int .i64 S1.used,.int .i64 S1.sent,.int .i64 S1.fin,.bool td,bA ou])).aC b4 (.cells [bT r,.bool bk,q,.slice (pr.map aF),.bool true,.slice (S1.p.map aF),.slice (S1.q.map Tm.av),.int .i64 S1.quota,.int .i64 S1.used,.int .i64 S1.sent,.int .i64 S1.fin,.bool td,bA ou])) st a a:=fun h=>Told.same (fun h=>D'.j7.step h) h
    have tq:=D'.told (p:=(2,q,w.map bC)) (by simp) (mC w) (kP w)
    exact⟨_,st,D'.j7,Told.agg (.cons (S rfl) (.cons (S rfl) (.cons tq (.cons (S rfl) (.cons (S rfl) (.cons (S rfl) (.cons (S rfl) (.cons (S rfl) (.cons (S rfl) (.cons (S rfl) (.cons (S rfl) (.cons (S rfl) (.cons (S rfl) .nil))))))))))))),rfl,rfl⟩
 have hk':=bB hk2
 by_cases hk3:fk=3
 · have M3:=bP hk3
   unfold xK
   rw[aH hk1,aH hk2,aN hk3]
   simp only[hk,hk',M3,aV,a8,aG,e2,aB,seval,lV]
   refine(aM5 ⟨r,bk,w,[],ac,ss,td,ou⟩ rfl 4 ⟨#[]⟩ (by simp only;omega) (C2.aC (d:=b2) (by simp) _)).mono ?_
   rintro _ s4 ⟨rfl,C3,k3⟩
   have g3:=(k3 b4 (by simp)).trans ((aA.aO _ _ hne).trans g2)
   simp only[bV,eU,sent,bD]
   simp only[aG,g3,aB,seval,lV]
   exact fO ⟨r,bk,w,[],ac,ss,td,ou++ [(4,⟨#[]⟩)]⟩ s4 C3 g3
 have M3:=bB hk3
 unfold xK
 rw[aH hk1,aH hk2,aH hk3]
 simp only[hk,hk',M3,a8,e2,aB,seval,lV]
 refine(G0 ⟨r,bk,w,pr,ac,ss,td,ou⟩ 5 ⟨#[116,121,112,101]⟩ (by simp only;omega) C2).mono ?_
 rintro _ s4 ⟨rfl,C3,k3⟩
 have g3:=(k3 b4 (by simp)).trans g2
 simp only[bV,eU,sent]
 simp only[aG,g3,aB,seval,lV]
 exact fO ⟨r,bk,w,pr,ac,ss,td,ou++ [(5,⟨#[116,121,112,101]⟩)]⟩ s4 C3 g3
noncomputable def n9(c:dT)(qu n:Int):dT:=
 if c.act=true then IV c n
 else match c.wait with
  | f::w=>xK c f w qu
  | []=>if(c.brk&& !c.told)=true then sent { c with told:=true } 5 ⟨#[102,114,97,109,101]⟩ else c
abbrev uR:=zi aX (zi cD (zi gE (zi cG (zi kU (zi uV (zi p8 (zi aIL (zi aIG O1))))))))
set_option maxHeartbeats 1000000 in
theorem aM7(c:dT)(qu n:Int)(hok:rZ c=true)(hn:0≤n)(hwl:c.wait.length≤1048576)(ho:c.out.length≤1000000)(st:aA):aD prog 184 [bV c,.int .i64 qu,.int .i64 n] st (fun r st'=>r=bV (n9 c qu n)∧st'=st):=by
 have hsl:=fun h s=>aM6 c n h hn ho s
 have hhd:=fun f w h1 h2 s=>aM3 c f w qu h1 (by rw[h1] at hwl;simp at hwl;omega) h2 ho s
 simp only[rZ,bG,dD,kV,jI,bK] at hok
 obtain⟨k1,k2,k3,k4⟩:=hok
 unfold n9
 obtain⟨r,bk,wt,pr,ac,ss,td,ou⟩:=c
 simp only at k1 k2 ho hwl
 refine aD.kK ?_
 simp only[bV,eU] at hsl hhd ⊢
 refine wF [1000000,3] 3 func184 ntmps184 rfl rfl ?_
 intro _
 simp only[aB,seval,uR]
 intro b3 h3 b6 h6
 have hne:b6≠b3:=by rintro rfl;rw[aA.aK] at h6;cases h6
 have h6n:st b6=none:=by rw[aA.aO _ _ hne] at h6;exact h6
 have hD2:∀A B,aJ ((st.aC b3 A).aC b6 B) st:=fun A B=>by
  intro y
  by_cases e1:y=b3<;>by_cases e2:y=b6<;>simp_all [aA.aC]
 have hDr:∀A B C,aJ (((st.aC b3 A).aC b6 B).aC b6 C) st:=fun A B C=>by
  intro y
  by_cases e1:y=b3<;>by_cases e2:y=b6<;>simp_all [aA.aC]
 have aD8:∀A B C E,aJ ((((st.aC b3 A).aC b6 B).aC b3 C).aC b6 E) st:=fun A B C E=>by
  intro y
  by_cases e1:y=b3<;>by_cases e2:y=b6<;>simp_all [aA.aC]
 cases ac with
 | true=>
  rw[aN rfl]
  have hss:o0 ss=true:=by rcases k2 with h | h;cases h;exact h.1
  simp only[n6,hne.symm,aB,seval,uR]
  refine(hsl hss _).to ?_
  simp only[aG,n6,aB,seval,uR]
  exact hD2 _ _
 | false=>
  rw[aH (by simp)]
  cases wt with
  | cons f w=>
   have h1:=k1 f (iZ ..)
   simp only[gB,yP,bG,bK] at h1
   have hp:=bP (show(0:Int)<(w.length:Int)+1 by omega)
   simp only[aY,hp,aV,aE,n6,hne.symm,aB,seval,uR]
   refine(hhd f w rfl (by omega) _).to ?_
   simp only[aG,n6,aB,seval,uR]
   exact hD2 _ _
  | nil=>
   have hse:=fun s=>DS ⟨r,bk,[],pr,false,ss,true,ou⟩ 5 ⟨#[102,114,97,109,101]⟩ (by simp only;omega) s
   simp only[bV,eU,sent] at hse
   cases bk with
   | false=>
    simp only[aW,eO,aG,n6,hne.symm,aB,seval,uR]
    first | exact hD2 _ _ | exact⟨rfl,hD2 _ _⟩
   | true=>
    cases td with
    | true=>
     simp only[aW,eO,aG,n6,hne.symm,aB,seval,uR]
     first | exact hD2 _ _ | exact⟨rfl,hD2 _ _⟩
    | false=>
     simp only[aW,eO,aG,n6,hne.symm,aB,seval,uR]
     refine(hse _).to ?_
     simp only[aG,n6,hne,aB,seval,uR]
     first | exact aD8 _ _ _ _ | exact⟨rfl,aD8 _ _ _ _⟩
theorem dK.put{st:aA}{w:Nat}{q:AV}{l:List AV}(h:dK st w q l)(hw:∀e∈l,e.width=w){k:Nat}{e:AV}(he:l[k]?=Option.some e) :
 ∃b A B,q=.mslice b 0 l.length w∧cP q= [b]∧A.length=k*w∧st b=Option.some (.cells (A++e.cells++B))∧∀(s':aA) (e':AV),e'.width=w→s' b=Option.some (.cells (A++e'.cells++B))→dK s' w q (l.set k e'):=by
 obtain⟨b,X,hq,hqb,hb,hA⟩:=h.split hw he
 obtain⟨hi,hei⟩:=gJ.1 he
 refine⟨b,_,_,hq,hqb,hA,hb,fun s' e' he' hs'=>.inr ⟨b,_,by rw[List.length_set];exact hq,hs',?_,?_⟩⟩
 · have hl:(l.set k e').flatMap AV.cells=(l.take k).flatMap AV.cells++e'.cells++(l.drop (k+1)).flatMap AV.cells:=by
    rw[GC,aN hi];simp
   have hlen:((l.set k e').flatMap AV.cells).length=(l.set k e').length*w:=lQ fun x hx=>by
    rcases PR hx with h | h
    · exact hw x h
    · rw[h];exact he'
   rw[←hlen,hl,←qE,List.take_left]
 · have hlen:((l.set k e').flatMap AV.cells).length=(l.set k e').length*w:=lQ fun x hx=>by
    rcases PR hx with h | h
    · exact hw x h
    · rw[h];exact he'
   rw[←hlen,GC,aN hi]
   simp only[wM,yZ,cX]
   omega
noncomputable def CE(s:Sv)(n:Int):Sv:=if 1≤n∧q7 s=true then { s with cs:=s.cs.map fun c=>n9 c s.quota n } else s
abbrev wD:=zi aX (zi uT (zi p7 p8))
set_option maxHeartbeats 1000000 in
theorem aOS(s:Sv)(n:Int)(st:aA)(h0:s.cs.length≤1048576)(hb:∀c∈s.cs,xA c∧c.wait.length≤1048576∧c.out.length≤1000000):aD prog 145 [fZ s,.int .i64 n] st (fun r st'=>r=fZ (CE s n)∧st'=st):=by
 have hcp:=fun st=>RD s h0 (fun c hc=>(hb c hc).1) st
 have hri:=fun st=>RH s st
 have cZ:q7 s=true→∀c∈s.cs,rZ c=true:=fun h=>by
  simp only[q7,bG,dD] at h
  exact h.1
 obtain⟨cs,qu⟩:=s
 simp only at h0 hb cZ
 simp only[fZ] at hcp hri
 unfold CE
 simp only
 generalize hok:q7 ⟨cs,qu⟩=ok at *
 generalize hR:(if 1≤n∧ok=true then({ cs:=cs.map fun c=>n9 c qu n,quota:=qu }:Sv) else⟨cs,qu⟩)=R
 refine aD.told ?_
 unfold fZ
 refine wF [1000000,4] 2 func145 ntmps145 rfl rfl ?_
 intro _
 simp only[aB,seval,wD]
 intro b4 h4
 refine(hcp _).mono ?_
 rintro _ s1 ⟨q,rfl,G⟩
 obtain⟨C1,f1,-⟩:=(c9.one h4 _).aFY G
 have e4:=(f1 b4 (by simp)).trans (aA.aK _ _ _)
 have A1:dK s1 13 q (cs.map bV):=C1.acc _ (iZ ..)
 obtain⟨z11,z12,z13,z14,z15⟩:=A1.shape
 have hlq:oH prog 34 q=some (.int .i64 (cs.length:Int)):=by
  have:=A1.len (P:=prog) aYF
  rwa [aE] at this
 simp only[z15,aB,↓a9,seval,wD]
 have hM0:∀i,((cs.take i).map (fun c=>n9 c qu n)++cs.drop i).length=cs.length:=fun i=>by simp only[cX,aE,dE,jZ];omega
 have lF:∀(L:List dT) (s5:aA),c9 st s5 [b4] [(13,q,L.map bV)]→∃a s2,aJ (s5.aC b4 (.cells [q,.int .i64 qu])) s2∧Told (s5.aC b4 (.cells [q,.int .i64 qu])) s2 a (.agg [q,.int .i64 qu])∧a=.agg [.slice (L.map bV),.int .i64 qu]∧s2=st:=fun L s5 D=>by
  have D':=D.aC (d:=b4) (by simp) (.cells [q,.int .i64 qu])
  exact⟨_,st,D'.j7,Told.agg (.cons (D'.told (p:=(13,q,L.map bV)) (by simp) (HC L) (AA L)) (.cons (Told.same (fun h=>D'.j7.step h) rfl) .nil)),rfl,rfl⟩
 refine d7 (σ:=aA) [1000000,4] [1,2,4,5] cs (fun i p=>(¬(1≤n∧ok=true)→i=0)∧c9 st p [b4] [(13,q,((cs.take i).map (fun c=>n9 c qu n)++cs.drop i).map bV)]∧p b4=some (.cells [.fslice [],.int .i64 0])) (fun i _=>[(6,.int .i64 i)]) (fun _ p=>p) (by decide +kernel)
  ⟨s1,⟨fun _=>rfl,by simpa using C1,e4⟩,aP.mk (by simp only[aB,↓a9,seval])⟩ (fun i x p hx hlt bN hdr hinv=>?_) (fun p hge hinv=>?_)
 case refine_2=>
  obtain⟨hi0,C2,g2⟩:=hinv
  simp only[hge,aG,g2,z11,z12,z15,hlq,aB,seval,wD]
  rw[dR,o9,gI] at C2
  by_cases hgo:1≤n∧ok=true
  · rw[aN hgo] at hR
    subst hR
    exact lF _ _ C2
  · rw[aH hgo] at hR
    subst hR
    have:=rM (hi0 hgo)
    subst this
    exact lF _ _ C2
 obtain⟨hi0,C2,g2⟩:=hinv
 have aE7:¬(1≤n∧ok=true)→c9 st p [b4] [(13,q,cs.map bV)]:=fun h=>by
  have:=hi0 h
  subst this
  simpa using C2
 have hwi:=bH (n:=(i:Int)+1)
 by_cases hn:1≤n
 case neg=>
  have hn':=bB hn
  rw[aH (fun h=>hn h.1)] at hR
  subst hR
  simp only[bN,hn',aV,a8,eO,aG,g2,z11,z12,z15,hlq,aB,seval,wD]
  exact lF _ _ (aE7 fun h=>hn h.1)
 have hn':=bP hn
 simp only[bN,hn',aV,eO,z11,z12,hlq,aB,seval,wD]
 refine(hri _).to ?_
 cases ok with
 | false=>
  rw[aH (by simp)] at hR
  subst hR
  simp only[aG,g2,z15,aB,seval,wD]
  exact lF _ _ (aE7 (by simp))
 | true=>
  have hMi:(((cs.take i).map (fun c=>n9 c qu n)++cs.drop i).map bV)[i]?=some (bV x):=by
   rw[mI,J8 (by simp only[aE,dE];omega)]
   simp only[aE,dE,KB]
   rw[show i+(i - min i cs.length)=i by omega,hx];try rfl
  have hMs:((cs.take i).map (fun c=>n9 c qu n)++cs.drop i).set i (n9 x qu n)=(cs.take (i+1)).map (fun c=>n9 c qu n)++cs.drop (i+1):=by
   rw[List.set_append_right _ _ (by simp only[aE,dE];omega)]
   simp only[aE,dE]
   rw[show i - min i cs.length=0 by omega,hdr,List.set_cons_zero,eD,hx]
   simp
  have A2:dK p 13 q (((cs.take i).map (fun c=>n9 c qu n)++cs.drop i).map bV):=C2.acc _ (iZ ..)
  obtain⟨b,A,B,hq,hqb,hA,eb,aTJ⟩:=A2.put (AA _) hMi
  rw[aE,hM0] at hq
  obtain⟨hx1,hx2,hx3⟩:=hb x (cQ hx)
  have htu:=fun s=>aM7 x qu n (cZ rfl x (cQ hx)) (by omega) hx2 hx3 s
  generalize n9 x qu n=y at *
  have hat:=AT (P:=prog) (b:=b) (len:=cs.length) (w:=13) (i:=i) vK hlt
  rw[←hq] at hat
  simp only[bV] at htu
  replace eb:p b=some (.cells (A++eU x++B)):=eb
  have p2:i*13+13≤(A++eU x++B).length:=by simp only[cX,eU,aY,aW];omega
  have p4:((A++eU x++B).drop (i*13)).take 13=eU x:=by rw[qE,List.drop_left' hA];try rfl
  have p5:aG (A++eU x++B) (i*13) (eU y)=A++eU y++B:=(NO (C:=eU x) (x:=eU y) hA rfl rfl).1
  simp only[aB,seval]
  refine wX [(0,1),(1,1),(2,1),(3,1),(4,1),(5,1),(6,1),(8,1),(9,1),(10,1),(7,0),(11,0),(12,1),(13,2)] [0,1,2,3,4,5,6,8,9,10,12] dW mixed rfl cY ?_
  simp only[z11,z12,hat,eb,p2,p4,aB,seval,wD]
  refine⟨cY,?_⟩
  refine(htu _).to ?_
  simp only[hat,eb,p2,p5,hwi,aB,seval,wD]
  obtain⟨C3,k3,-⟩:=C2.grow (s':=p.aC b (.cells (A++eU y++B))) (q':=q) (aTJ _ (bV y) rfl (aA.aK _ _ _)) (fun z hz _=>aA.aO _ _ (by rintro rfl;exact hz (by rw[hqb];simp))) (fun z hz=>.inl hz)
  rw[←List.map_set,hMs] at C3
  have g3:=(k3 b4 (by simp)).trans g2
  exact⟨cY,rfl,SR y,p.aC b (.cells (A++eU y++B)),⟨C3,g3⟩,aP.mk (by simp only[aB,seval])⟩
abbrev aXV:=zi aX (zi gE (zi f0 (zi rD O2)))
theorem aOI(bs:List Bt)(c p:Nat)(hp:p≤1099511627776)(st:aA)(h:fC st c bs p) :
 aD prog 30 [.ptr c 0,.int .i64 0] st (fun r st'=>r=.int .i64 0∧st'=st.aC c (fK bs (p+1))):=by
 unfold fC at h
 refine wF [1000000] 2 func30 ntmps30 rfl rfl ?_
 intro _
 have hw1:IntKind.i64.wrap ((p:Int)+1)=(p:Int)+1:=wrap64 (by omega) (by omega)
 have hrd:fK bs (p+1)=.cells [.slice (bs.map a7),.int .i64 ((p:Int)+1)]:=by simp [fK]
 rw[hrd]
 have h1:=bP (show(0:Int)<1 by decide)
 simp only[h1,aV,aG,h,hw1,aB,seval,aXV]
theorem SF(bs:List Bt)(c p:Nat)(hp:p≤1099511627776)(n:Nat)(hn2:n≤1048576)(st:aA)(h:fC st c bs p) :
 aD prog 30 [.ptr c 0,.int .i64 (n:Int)] st (fun r st'=>∃k:Nat,k≤n∧r=.int .i64 (k:Int)∧st'=st.aC c (fK bs (p+1))):=by
 by_cases hn:n=0
 · subst hn
   refine(aOI bs c p hp st h).mono ?_
   rintro _ _ ⟨rfl,rfl⟩
   exact⟨0,c6 _,rfl,rfl⟩
 · refine(tP bs c p hp n (by omega) hn2 st h).mono ?_
   rintro _ _ ⟨k,hk,rfl,rfl⟩
   exact⟨k,by omega,rfl,rfl⟩
theorem aI5{t:Tm}(h:t.valid=true):sZ (tx 1000) t:=by
 have hw:Ws t:=⟨30,by simp only[Tm.valid,bG] at h;exact h.1⟩
 have hn:=Tm.qA h
 exact⟨fun st=>LH 1000 t st hw (by omega) (by omega),wI 1000 t hw,PE hw (by omega),by omega⟩
theorem aHJ{q:List Tm}(h:∀x∈q,x.valid=true):bU Tm.nodes q≤120*q.length:=by
 induction q with
 | nil=>simp [bU]
 | cons x q ih=>
  have h1:=ih fun y hy=>h y (by simp [hy])
  have h2:=Tm.qA (h x (by simp))
  simp only[bU,aY]
  omega
theorem RE(q:List Tm)(hq:eR q=true)(st:aA):aD prog 190 [.slice (q.map Tm.av)] st (fun r st'=>(∃t:ByteArray,t.size≤100000∧r=.str t)∧st'=st):=by
 obtain⟨q1,q2⟩:=IP hq
 have hv:∀x∈q,x.valid=true:=fun x hx=>by
  simp only[eR,bG,dD] at hq
  exact Tm.EC (hq.2 x hx)
 have hn:=aHJ hv
 have hsz:=DO (T:=tx 1000) (l:=q) fun x hx=>(aI5 (hv x hx)).2.1
 have hc:=fun s=>LG q (fun x hx=>aI5 (hv x hx)) (by omega) (by omega) s
 refine wF [1000000] 1 func190 ntmps190 rfl rfl ?_
 intro _
 simp only[aB,seval]
 refine(hc _).to ?_
 simp only[aB,seval]
 exact⟨_,by omega,rfl⟩
theorem aL2{h:ByteArray}{l:List Tm}(hl:∀x∈l,(jX x).size≤32*x.nodes):(oK jX h l).size≤h.size+2+32*bU Tm.nodes l+l.length:=by
 have hg:∀(xs:List Tm) (o:ByteArray),(∀x∈xs,(jX x).size≤32*x.nodes)→(xs.foldl (fun o y=>(o++⟨#[44]⟩)++jX y) o).size≤o.size+32*bU Tm.nodes xs+xs.length:=by
  intro xs
  induction xs with
  | nil=>intro o _;simp [bU]
  | cons y ys ih=>
   intro o hy
   have h1:=ih ((o++⟨#[44]⟩)++jX y) fun z hz=>hy z (by simp [hz])
   have h2:=hy y (by simp)
   rw[cC,cC] at h1
   have h3:(⟨#[44]⟩:ByteArray).size=1:=rfl
   simp only[sU,bU,aY]
   omega
 cases l with
 | nil=>simp [oK,bU]
 | cons x xs=>
  have h1:=hg xs ((h++⟨#[58,45]⟩)++jX x) fun z hz=>hl z (by simp [hz])
  have h2:=hl x (by simp)
  rw[cC,cC] at h1
  have h3:(⟨#[58,45]⟩:ByteArray).size=2:=rfl
  simp only[oK,bU,aY]
  omega
theorem aO7{c:Cl}(h:lA c=true):(z8 c).size≤28000∧((Ws c.1∧c.1.nodes≤120)∧c.2.length≤6∧∀x∈c.2,Ws x∧x.nodes≤120):=by
 have h':=h
 simp only[lA,bG,bK,dD] at h'
 have hw:∀ {t:Tm},t.valid=true→Ws t:=fun {t} h=>⟨30,by simp only[Tm.valid,bG] at h;exact h.1⟩
 have hv:∀x∈c.2,x.valid=true:=fun x hx=>Tm.EC (h'.2.2 x hx)
 have hn:=aHJ hv
 have h1:(jX c.1).size≤32*c.1.nodes:=wI 130 c.1 (hw h'.1.1)
 have h2:=aL2 (h:=jX c.1) (l:=c.2) fun x hx=>wI 130 x (hw (hv x hx))
 have h3:=Tm.qA h'.1.1
 refine⟨?_,⟨hw h'.1.1,h3⟩,h'.2.1,fun x hx=>⟨hw (hv x hx),Tm.qA (hv x hx)⟩⟩
 unfold z8
 rw[cC]
 have h4:(⟨#[46]⟩:ByteArray).size=1:=rfl
 omega
abbrev ON:=zi aX (zi cG (zi lK m9))
theorem aON(p:List Cl)(hp:gK p=true)(st:aA):aD prog 189 [.slice (p.map aF)] st (fun r st'=>(∃t:ByteArray,t.size≤1000000∧r=.str t)∧st'=st):=by
 have hpv:=fun s=>G4 p s
 rw[hp] at hpv
 have hp':=hp
 simp only[gK,bG,bK,dD] at hp'
 have hm:maxLen=9223372036854775807:=by rfl
 refine wF [1000000] 1 func189 ntmps189 rfl rfl ?_
 intro _
 simp only[aB,seval]
 refine d7 (σ:=ByteArray) [1000000] [0,2] p (fun i t=>t.size≤28001*i) (fun i t=>[(3,.str t),(4,.int .i64 i)]) (fun _ _=>st) (by decide +kernel) ⟨⟨#[]⟩,by show(0:Nat)≤_;omega,aP.mk (by simp only[aB,↓a9,seval])⟩ (fun i x t hx hlt bN hdr hinv=>?_) (fun t hge hinv=>?_)
 case refine_2=>
  simp only[hge,aE,aB,seval,ON]
  exact⟨t,by omega,rfl⟩
 have hw:=bH (n:=(i:Int)+1)
 obtain⟨x1,x2⟩:=aO7 (hp'.2 x (cQ hx))
 have hlt:=fun s=>R6 x x2 s
 have hat:=bR (av:=aF) (P:=prog) oN hx (jC x)
 generalize z8 x=T at *
 have k1:t.size+T.size≤maxLen:=by omega
 have k2:(t++T).size+(⟨#[10]⟩:ByteArray).size≤maxLen:=by rw[cC];show _+1≤_;omega
 simp only[bN,aV,eO,aE,aB,seval,ON]
 refine(hpv _).to ?_
 simp only[hat,jC,rY,aB,seval,ON]
 refine(hlt _).to ?_
 simp only[↓reduceIte,hw,k1,k2,aB,seval]
 refine⟨(t++T)++⟨#[10]⟩,?_,aP.mk (by simp only[aB,seval])⟩
 rw[cC,cC]
 show _+_+1≤_
 omega
theorem aD.aKN{P:Program}{g:FuncId}{args:List AV}{st:aA}{w:Nat}{l:List AV}(hj:∀e∈l,e.bO=false)(hw:∀e∈l,e.width=w)(x:aD P g args st (fun r st'=>dK st' w r l∧(∀b∈cP r,st b=none)∧aJ st' st)):aD P g args st (fun r st'=>r=.slice l∧st'=st):=
 x.mF fun r st' ⟨h1,h2,h3⟩=>⟨.slice l,st,h3.o5,fun h v S y=>by
  obtain⟨y1,y2⟩:r.isAgg=iW v∧VC h st' r v.cells.toList:=by rcases h1 with ⟨rfl,_⟩ | ⟨_,_,rfl,_⟩<;>exact y
  obtain⟨c,hc⟩:=y2.one h1.shape.1
  rw[hc] at y2
  exact⟨by rw[←y1,h1.shape.1];try rfl,by rw[hc];exact h1.seen S h3 h2 hj hw y2⟩,rfl,rfl⟩
theorem aKT{P:Program}{t t':TypeId}{ag:Bool}{kd:IntKind}{w bytes n:Nat}{zs:List AV}{st:aA}{K:AV→aA→Prop}(hI:eI P t=some (ag,w))(hB:eB P t=some bytes)(hZ:eZ P t=some zs)(hu:P.underlying t'=some (.int kd))(hz:zs.length=w)(hw:w≠0)(hzs:zs.all AV.storable=true)(h1:n*bytes≤140737488355328)(h2:n≤4194304)(hn:n≠0)(hK:∀b,st b=none→K (.mslice b 0 n w) (st.aC b (.cells (iG zs n)))):qI P t t' st (.fslice []) (.int .i64 (n:Int)) K:=by
 refine Or.inr ?_
 unfold zH
 simp only[hI,hB,hZ,hu,fV]
 exact⟨hz,hw,hzs,by omega,trivial,h1,by omega,fun h=>absurd h hn,fun _=>hK⟩
abbrev OJ:=zi aX (zi cG f0)
theorem aMJ(n:Nat)(hn:n≤4000000)(st:aA):aD prog 148 [.fslice [],.int .i64 (n:Int)] st (fun r st'=>dK st' 1 r []∧(∀b∈cP r,st b=none)∧aJ st' st):=by
 have hw1:=bH (n:=0)
 have hw2:=bH (n:=(n:Int) - 0)
 rw[Int.sub_zero] at hw2
 have h0:=bB (show ¬((n:Int)<0) by omega)
 refine wF [1000000] 2 func148 ntmps148 rfl rfl ?_
 intro _
 simp only[h0,a8,aW,hw1,hw2,Int.sub_zero,aB,seval,OJ]
 by_cases hz:n=0
 case pos=>
  have hz':=bB (show ¬(0<(n:Int)) by omega)
  simp only[hz',a8,aB,seval]
  exact⟨.inl ⟨rfl,rfl⟩,by simp [cP],aJ.refl _⟩
 have hz':=bP (show 0<(n:Int) by omega)
 simp only[hz',aV,aW,aB,seval,OJ]
 rw[aG7 eV (by simp only[aB,seval])]
 simp only[aB,seval]
 refine aKT eV l9 mA PG rfl (by omega) rfl (by omega) (by omega) hz fun b hb=>?_
 simp only[aW,aB,seval,OJ]
 rw[aG9 eV (by simp only[aB,↓a9,seval]) (f9 _)]
 simp only[aB,seval]
 refine⟨.inr ⟨b,_,rfl,aA.aK _ _ _,by simp,by simp⟩,?_,(aJ.refl st).aC hb⟩
 intro y hy
 simp only[cP,cT,dF,dS] at hy
 rw[hy]
 exact hb
theorem aSC(Ls:List (List AV))(i:Nat):(Ls.take i).flatten.length≤Ls.flatten.length:=by
 conv=>rhs;rw[←y7 i Ls,List.flatten_append,cX]
 omega
theorem r7{Ls:List (List AV)}{i:Nat}{l:List AV}(h:Ls[i]?=some l):(Ls.take (i+1)).flatten=(Ls.take i).flatten++l:=by
 rw[eD,h,List.flatten_append]
 simp
abbrev I4:=zi aX (zi cG (zi f0 aII))
set_option maxHeartbeats 1000000 in
theorem aME(Ls:List (List AV))(hf:∀l∈Ls,tJ 1 l)(hj:∀e∈Ls.flatten,e.bO=false)(hn:Ls.flatten.length≤4000000)(h2:Ls.length≤1000)(st:aA):aD prog 103 [.fslice (Ls.map AV.slice)] st (fun r st'=>r=.slice Ls.flatten∧st'=st):=by
 refine aD.args (args':=[.slice (Ls.map AV.slice)]) ?_ fun hp vs S V=>?_
 case refine_2=>
  simp only[cJ] at V ⊢
  obtain⟨v,r,rfl,V1,V2⟩:=V
  exact⟨v,r,rfl,V1.AK,V2⟩
 refine aD.aKN (w:=1) hj (fun e he=>by obtain⟨l,hl,he⟩:=List.mem_flatten.1 he;exact(hf l hl e he).1) ?_
 have hfl:=aSC Ls
 refine wF [1000000] 1 func103 ntmps103 rfl rfl ?_
 intro _
 simp only[aE,aB,seval,I4]
 refine gW (σ:=Nat) [1000000] [0,2,9,10] (fun i=>i≤Ls.length) (fun i=>[(3,.int .i64 (((Ls.take i).flatten.length:Nat):Int)),(11,.int .i64 (i:Int))]) (fun _=>st) (fun i=>Ls.length - i) (by decide +kernel) ⟨0,f9 _,aP.mk (by simp only[mK,List.flatten_nil,aW,aB,↓a9,seval])⟩ ?_
 intro i hi
 by_cases hlt:i<Ls.length
 case pos=>
  have bN:=bP (show(i:Int)<(Ls.length:Int) by omega)
  obtain⟨l,hl⟩:∃l,Ls[i]?=some l:=⟨_,d4 hlt⟩
  have hat:=bR (P:=prog) (av:=AV.slice) (t:=186) L7 hl rfl
  have hs:=r7 hl
  have h3:=hfl (i+1)
  rw[hs,cX] at h3
  have hw:=bH (n:=(((Ls.take i).flatten.length:Nat):Int)+(l.length:Int))
  have hw1:=bH (n:=(i:Int)+1)
  have hz:=bB (show ¬((((Ls.take i).flatten.length:Nat):Int)+(l.length:Int)<0) by omega)
  simp only[bN,aV,hat,hw,aB,seval,I4]
  simp only[hz,a8,hw1,aB,seval]
  refine⟨i+1,by omega,by omega,aP.mk ?_⟩
  rw[hs,cX]
  simp only[aB,seval]
  simp only[Int.natCast_add]
 have hie:i=Ls.length:=by omega
 subst hie
 have bN:=bB (Int.lt_irrefl (Ls.length:Int))
 rw[dR]
 simp only[bN,a8,aB,seval]
 refine(aMJ _ hn st).mono ?_
 rintro q s0 ⟨hA,hF,hD⟩
 have hq:=hA.shape
 simp only[aE,aB,seval,I4]
 refine gW (σ:=Nat×AV×aA) [1000000] [2,25,26] (fun x=>x.1≤Ls.length∧dK x.2.2 1 x.2.1 (Ls.take x.1).flatten∧(∀b∈cP x.2.1,st b=none)∧aJ x.2.2 st) (fun x=>[(6,x.2.1),(27,.int .i64 (x.1:Int))]) (fun x=>x.2.2) (fun x=>Ls.length - x.1) (by decide +kernel) ⟨(0,q,s0),⟨f9 _,hA,hF,hD⟩,aP.mk (by simp only[aB,↓a9,seval])⟩ ?_
 rintro⟨i,q,s⟩ ⟨hi,hA,hF,hD⟩
 simp only at hi hA hF hD
 have hq:=hA.shape
 by_cases hlt:i<Ls.length
 case pos=>
  have bN:=bP (show(i:Int)<(Ls.length:Int) by omega)
  obtain⟨l,hl⟩:∃l,Ls[i]?=some l:=⟨_,d4 hlt⟩
  have hat:=bR (P:=prog) (av:=AV.slice) (t:=186) L7 hl rfl
  have hs:=r7 hl
  have h3:=hfl (i+1)
  rw[hs,cX] at h3
  have hw1:=bH (n:=(i:Int)+1)
  simp only[bN,aV,hat,aB,seval,I4]
  refine dK.pH eV l9 mA rfl (by decide) hA rfl (hf l (cQ hl)) (by omega) fun q' s' hA' k1 k2=>?_
  have hq':=hA'.shape
  simp only[hw1,aB,seval]
  have hF':∀b∈cP q',st b=none:=fun b hb=>(k2 b hb).elim (hF b) fun h=>(hD b).1 h
  have hD2:∀y o,st y=some o→s' y=some o:=fun y o h=>by
   rw[k1 y (fun hy=>by rw[hF y hy] at h;cases h) (fun hy=>by rw[hF' y hy] at h;cases h)]
   exact(hD y).2 o h
  refine⟨(i+1,q',s'),by simp only;omega,⟨by simp only;omega,by simp only;rw[hs];exact hA',hF',fun y=>⟨fun h=>?_,hD2 y⟩⟩,aP.mk (by simp only[aB,seval])⟩
  cases hy:st y with
  | none=>rfl
  | some o=>have:=hD2 y o hy;simp only at h;rw[this] at h;cases h
 have hie:i=Ls.length:=by omega
 subst hie
 rw[dR] at hA
 have bN:=bB (Int.lt_irrefl (Ls.length:Int))
 simp only[bN,a8,aB,seval]
 exact⟨hA,hF,hD⟩
theorem aVF{x y:Nat}(hx:x<256)(hy:y<256):DH .i64 ((x:Int)*256) (y:Int)=(x:Int)*256+(y:Int):=by
 unfold DH
 have h1:(BitVec.ofInt IntKind.i64.bits ((x:Int)*256))=BitVec.ofNat IntKind.i64.bits (x*256):=by
  rw[show(x:Int)*256=((x*256:Nat):Int) by omega,J4]
 have h2:(BitVec.ofInt IntKind.i64.bits (y:Int))=BitVec.ofNat IntKind.i64.bits y:=J4 ..
 have hb:IntKind.i64.bits=64:=rfl
 rw[h1,h2,BitVec.toNat_or,J5,J5,hb,CV (by omega),CV (by omega)]
 have h3:x*256 ||| y=x*256+y:=by
  have:=Nat.shiftLeft_add_eq_or_of_lt (i:=8) (b:=y) (by omega) x
  rw[Nat.shiftLeft_eq] at this
  exact this.symm
 rw[h3,wrap64 (by omega) (by omega)]
 omega
theorem aWV{x:Nat}(hx:x<256):tE .shl .i64 (x:Int) 8=some (.int .i64 ((x:Int)*256)):=by
 unfold tE
 rw[aH (by omega)]
 show some (AV.int .i64 (IntKind.i64.wrap ((x:Int)*256)))=_
 rw[wrap64 (by omega) (by omega)]
def jT:List (Fin 256)→Int
 | x::y::_=>(x.val:Int)*256+(y.val:Int)
 | _=> -1
def vF(x:Fin 256):AV:=.int .u8 (x.val:Int)
theorem aPA(x:Fin 256):kJ prog 5 3 (.int .u8 (x.val:Int))=some (.int .i64 (x.val:Int)):=by
 have h:=x.isLt
 have hw:=bH (n:=(x.val:Int))
 unfold kJ
 simp only[PH,PG,hw]
abbrev I5:=zi aX (zi gE (zi f0 aIH))
theorem aOG(l:List (Fin 256))(st:aA):aD prog 104 [.slice (l.map vF)] st (fun r st'=>r=.int .i64 (jT l)∧st'=st):=by
 refine wF [1000000] 1 func104 ntmps104 rfl rfl ?_
 simp only[eF,AV.fits,eN,aE]
 intro ⟨hl,_⟩
 match l,hl with
 | [],_=> 
  simp only[bD,aW,aB,seval,I5]
  rfl
 | [x],_=> 
  simp only[bF,bD,aW,aY,aB,↓a9,seval,I5]
  rfl
 | x::y::r,hl=>
  have h1:=bB (show ¬(((x::y::r).length:Int)<2) by simp only[aY];omega)
  have g9:dP prog 22 (.slice ((x::y::r).map vF)) (.int .i64 0)=some (.pptr (vF x)):=bR (av:=vF) (i:=0) eV rfl rfl
  have lE:dP prog 22 (.slice ((x::y::r).map vF)) (.int .i64 1)=some (.pptr (vF y)):=bR (av:=vF) (i:=1) eV rfl rfl
  have hs:=aWV x.isLt
  have ho:=aVF x.isLt y.isLt
  generalize hL:x::y::r=L at *
  simp only[h1,a8,aE,aB,seval,I5]
  refine wP [(0,1),(1,1),(5,1),(6,1),(2,2),(3,1),(4,1),(7,2),(8,1),(9,1),(10,1)] [0,1,5,6,2,3,4,7,8,9,10] mixed ?_
  simp only[g9,lE,vF,hs,ho,aPA,aB,seval,I5]
  rw[←hL]
  try rfl
theorem aKU{st:aA}{l:List Bt}{K:AV→aA→Prop}(hb:l.length≤4194304)(hK:∀b,(l.map a7≠[]→st b=none)→K (bQ 1 b (l.map a7)) (aU st b (l.map a7))) :
 i8 prog 22 st (.fslice []) (.slice (l.map a7)) K:=by
 have:=eE (P:=prog) (st:=st) (b:=0) (l:=[]) (xs:=l.map a7) (x:=.slice (l.map a7)) (K:=K) eV l9 mA rfl rfl (pL l) (by simp) (by simp) (by simp only[aW,aE];omega) (by simp only[aW,aE];omega) (fun b hb=>by rw[dI] at hb ⊢;exact hK b hb)
 exact this
theorem K8(l:List Bt)(st:aA)(hb:l.length≤4194304):aD prog 102 [bT l] st (fun r st'=>r=bT l∧st'=st):=by
 have key:aD prog 102 [bT l] st (fun r st'=>∃b,(l.map a7≠[]→st b=none)∧r=bQ 1 b (l.map a7)∧st'=aU st b (l.map a7)):=by
  refine QF func102 ntmps102 rfl rfl (by kernel_rfl) (by show 1≤_;decide +kernel) ?_
  intro _
  refine zX (qL [1000000] (by decide +kernel) ?_)
  simp only[aB,seval]
  refine zX (zX (QU PF (by decide +kernel) (by decide +kernel) rfl fun c hc=>?_))
  refine qL [1000000] (by decide +kernel) ?_
  simp only[aB,seval]
  refine bE (fun h=>?_) (fun h=>?_)
  · subst h
    have hn:l= []:=by
     rcases l with _ | ⟨x,l⟩
     · rfl
     · have:=hc (by simp);cases this
    subst hn
    simp only[aB,seval]
    exact⟨0,rfl,rfl⟩
  · refine qL [1000000] (by decide +kernel) ?_
    simp only[aB,seval,f0]
    refine aKU hb fun b hb'=>?_
    simp only[aB,seval]
    exact⟨b,hb',rfl,rfl⟩
 refine aD.fin (key.mono ?_)
 rintro _ _ ⟨b,hb',rfl,rfl⟩
 exact⟨b,_,st,rfl,hb',oL _,⟨1,l7 _⟩,kY,rfl⟩
theorem SD(l:List Bt)(st:aA):aD prog 104 [bT l] st (fun r st'=>r=.int .i64 (jT l)∧st'=st):=aOG l st
theorem EO{b:List Bt}(h:b.length<2):jT b= -1:=by
 match b,h with
 | [],_=>rfl
 | [x],_=>rfl
theorem EN{b:List Bt}(h:¬b.length<2):jT b=(dJ b:Int):=by
 rcases b with _ | ⟨x,_ | ⟨y,r⟩⟩
 · simp at h
 · simp at h
 · simp [jT,dJ]
theorem aFG(b:List Bt):dJ b<65536:=by
 rcases b with _ | ⟨x,_ | ⟨y,r⟩⟩
 · simp [dJ]
 · simp [dJ]
 · have:=x.isLt;have:=y.isLt;simp only[dJ];omega
theorem aU0{b:List Bt}:(0≤jT b∧¬(1≤jT b∧jT b≤2001))↔(¬b.length<2∧(dJ b<1∨2001<dJ b)):=by
 by_cases h:b.length<2
 · rw[EO h];omega
 · rw[EN h];omega
theorem aFT{b:List Bt}:gD b=0↔(jT b<0∨((1≤jT b∧jT b≤2001)∧(b.length:Int)<jT b+2)):=by
 by_cases h0:b.length<2
 · rw[H9 h0,EO h0];simp
 rw[EN h0]
 by_cases h1:dJ b<1∨2001<dJ b
 · rw[xY h0 h1];omega
 by_cases h2:b.length<2+dJ b
 · rw[IA h0 h1 h2];omega
 rw[ES h0 h1 h2]
 split<;>omega
abbrev I6:=zi aX (zi cD (zi f0 uV))
theorem aMO(r:List Bt)(k:Bool)(st:aA)(hr:r.length≤4194304):aD prog 101 [jO r k] st (fun x st'=>x=.bool (oM r k)∧st'=st):=by
 have hwi:=G5 (jT r) 1 2001
 have hlo:=SD r st
 have hz:=aFT (b:=r)
 have hlt:jT r<65536∧-1≤jT r:=by
  have:=aFG r
  by_cases h:r.length<2
  · rw[EO h];omega
  · rw[EN h];omega
 unfold jO
 refine wF [1000000] 1 func101 ntmps101 rfl rfl ?_
 intro _
 simp only[aB,seval,I6]
 unfold oM
 cases k with
 | true=>
  have hz:decide ((r.length:Int)=0)=r.isEmpty:=by cases r with
   | nil=>rfl
   | cons x l=>simp;omega
  simp only[hz,aE,aB,seval,I6]
 | false=>
  generalize jT r=L at *
  have hw:=bH (n:=L+2)
  simp only[aB,seval,I6]
  refine hlo.to ?_
  simp only[aB,seval]
  by_cases h1:L<0
  case pos=>
   have hd:decide (gD r=0)=true:=d6 (hz.2 (.inl h1))
   have h1':=bP h1
   simp only[h1',aV,hd,aB,seval]
  have h1':=bB h1
  by_cases h2:1≤L∧L≤2001
  case neg=>
   have hd:decide (gD r=0)=false:=eH (fun e=>by rcases hz.1 e with h | h<;>omega)
   have hb:(decide (1≤L)&&decide (L≤2001))=false:=by
    cases hx:(decide (1≤L)&&decide (L≤2001)) with
    | false=>rfl
    | true=>simp only[bG,bK] at hx;exact absurd hx h2
   rw[hb] at hwi
   simp only[h1',a8,aB,seval]
   refine(hwi _).to ?_
   simp only[hd,iA,aB,seval]
  have hb:(decide (1≤L)&&decide (L≤2001))=true:=by simp only[bG,bK];exact h2
  rw[hb] at hwi
  have hd:decide ((r.length:Int)<L+2)=decide (gD r=0):=by
   rw[r5,hz]
   omega
  simp only[h1',a8,aB,seval]
  refine(hwi _).to ?_
  simp only[hd,iA,aE,hw,aB,seval,I6]
theorem aHN{b:List Bt}(h:gD b= -1):eS b=([],[],true):=by
 unfold eS
 rw[dif_neg (by omega),aH (by omega)]
theorem OB{b:List Bt}(h:gD b=0):eS b=([],b,false):=by
 unfold eS
 rw[dif_neg (by omega),aN h]
theorem aHO{b:List Bt}(h:0<gD b):eS b=(kQ b::(eS (b.drop (2+dJ b))).1,(eS (b.drop (2+dJ b))).2):=by
 conv=>lhs;unfold eS
 rw[dif_pos h]
abbrev m8:=zi aX (zi cD (zi gE (zi cG (zi f0 (zi kU (zi lZ (zi uV aII)))))))
set_option maxHeartbeats 2000000 in
theorem aMQ(r:List Bt)(k:Bool)(x:List Bt)(st:aA)(hr:r.length+x.length≤4000000):aD prog 50 [jO r k,bT x] st (fun v st'=>mH (iE r k x) v∧st'=st):=by
 have hv:=fun s=>aMO r k s (by omega)
 have hcl:=fun s=>K8 r s (by omega)
 have hcc:=fun s=>aME [r.map a7,x.map a7] (by intro l hl;simp only[cT,dF,dS] at hl;rcases hl with rfl | rfl<;>exact pL _) (by intro e he;simp only[List.flatten_cons,List.flatten_nil,gI,kW] at he;rcases he with he | he<;>exact oL _ e he) (by simp only[List.flatten_cons,List.flatten_nil,gI,cX,aE];omega) (by simp) s
 rw[show([r.map a7,x.map a7]:List (List AV)).flatten=(r++x).map a7 by simp] at hcc
 unfold jO at hv ⊢
 refine aD.drop (Q:=mH _) (aD.fin ?_)
 refine wF [1000000,4,9] 2 func50 ntmps50 rfl rfl ?_
 intro _
 simp only[aB,seval,m8]
 intro b4 h4
 refine(hv _).to ?_
 have hno:oM r k=false∨k=true→iE r k x=((r,k),[]):=fun h=>by unfold iE;rw[aN h]
 have A0:oM r k=true→k=false→iE r k x=(((eS (r++x)).2.1,(eS (r++x)).2.2),(eS (r++x)).1):=fun h h'=>by unfold iE;rw[aH (by rintro(e | e)<;>first | (rw[h] at e;cases e) | (rw[h'] at e;cases e))]
 generalize oM r k=d at *
 generalize iE r k x=T at *
 simp only[aB,seval]
 cases d with
 | false=>
  cases hno (.inl rfl)
  simp only[fM,aB,seval]
  have e3:∀o o':AO,(aA.aC st b4 o).aC b4 o'=aA.aC st b4 o':=fun _ _=>d3 ..
  refine wX [(0,1),(1,1),(3,1),(4,1),(2,0),(5,1),(6,0),(7,1)] [0,1,3,4,5,7] dW mixed rfl cY ?_
  simp only[aB,seval,m8]
  refine(hcl _).to ?_
  simp only[aG,aA.aK,d3,aB,seval,m8]
  exact⟨cY,cY,0,[],_,rfl,by simp,by simp,⟨1,by simp⟩,(aJ.refl _).aC h4,by simp only[mH,jO,fE,eW,kN,gY,lD,bF,bD];rfl⟩
 | true=>
  cases k with
  | true=>
   cases hno (.inr rfl)
   simp only[fA,aB,seval,m8]
   have e3:∀o o':AO,(aA.aC st b4 o).aC b4 o'=aA.aC st b4 o':=fun _ _=>d3 ..
   refine wX [(0,1),(1,1),(3,1),(4,1),(2,0),(5,1),(6,0),(7,1)] [0,1,3,4,5,7] dW mixed rfl cY ?_
   simp only[aB,seval,m8]
   refine(hcl _).to ?_
   simp only[aG,aA.aK,d3,aB,seval,m8]
   exact⟨cY,cY,0,[],_,rfl,by simp,by simp,⟨1,by simp⟩,(aJ.refl _).aC h4,by simp only[mH,jO,fE,eW,kN,gY,lD,bF,bD];rfl⟩
  | false=>
   have hy:=A0 rfl rfl
   simp only[fA,aB,seval,m8]
   refine(hcc _).to ?_
   simp only[aB,seval]
   have hlen:(r++x).length≤4000000:=by rw[cX];exact hr
   generalize r++x=b0 at *
   have hS:∀o:AO,(aA.aC st b4 o) b4=some o:=fun o=>aA.aK _ _ _
   have hDS:∀o:AO,aJ (aA.aC st b4 o) st:=fun o=>(aJ.refl st).aC h4
   refine gW (σ:=List Bt×List Fr×Nat×aA) [1000000,4,9] [4] (fun y=>(y.2.1++(eS y.1).1,(eS y.1).2)=eS b0∧y.2.1.length+y.1.length≤4000000∧aJ y.2.2.2 (aA.aC st b4 (.cells [.fslice [],.bool false]))∧(y.2.1.map bC≠[]→y.2.2.2 y.2.2.1=none)) (fun y=>[(5,.fslice []),(6,bT y.1),(7,bQ 2 y.2.2.1 (y.2.1.map bC))]) (fun y=>aU y.2.2.2 y.2.2.1 (y.2.1.map bC)) (fun y=>y.1.length) (by decide +kernel) ⟨(b0,[],0,aA.aC st b4 (.cells [.fslice [],.bool false])),⟨by rw[dI],by simp only[aW];omega,aJ.refl _,by simp⟩,aP.mk (by simp only[bD,jM,aB,seval])⟩ ?_
   rintro⟨b,acc,p,s0⟩ ⟨i1,i2,i3,i4⟩
   simp only at i1 i2 i3 i4 ⊢
   have hlo:=SD b (aU s0 p (acc.map bC))
   have hwi:=G5 (jT b) 1 2001
   have hlt:jT b<65536∧-1≤jT b:=by
    have:=aFG b
    by_cases h:b.length<2
    · rw[EO h];omega
    · rw[EN h];omega
   have hw:=bH (n:=jT b+2)
   have F:∀s1:aA,aJ s1 (aA.aC st b4 (.cells [.fslice [],.bool false]))→(acc.map bC≠[]→s1 p=none)→(aU s1 p (acc.map bC)) b4=some (.cells [.fslice [],.bool false])∧(∀o:AO,(aU s1 p (acc.map bC)).aC b4 o=aU (s1.aC b4 o) p (acc.map bC))∧(∀o:AO,(aU (s1.aC b4 o) p (acc.map bC)) b4=some o)∧(∀o:AO,acc.map bC≠[]→(s1.aC b4 o) p=none)∧(∀o:AO,aJ (s1.aC b4 o) st):=fun s1 j3 j4=>by
    have hs4:=(j3 b4).2 _ (hS _)
    have hp4:acc.map bC≠[]→b4≠p:=fun h e=>by have:=j4 h;rw[←e,hs4] at this;cases this
    exact⟨by rw[wY hp4];exact hs4,fun o=>nF hp4,fun o=>by rw[wY hp4,aA.aK],fun o h=>by rw[aA.aO _ _ (dM (hp4 h))];exact j4 h,fun o=>(j3.trans (hDS _)).aC h4⟩
   obtain⟨e4,u4,v4,f4,D4⟩:=F s0 i3 i4
   have hz:=aFT (b:=b)
   have hng:=aU0 (b:=b)
   generalize hL:jT b=L at *
   simp only[aB,seval]
   refine hlo.to ?_
   simp only[aB,seval]
   by_cases h0:L<0
   case pos=>
    have g0:=bB (show ¬(0≤L) by omega)
    have g1:=bP h0
    simp only[g0,g1,a8,aV,aB,seval]
    have hn:gD b=0:=hz.2 (.inl h0)
    rw[OB hn] at i1
    simp only[gI] at i1
    refine(K8 b _ (by omega)).to ?_
    simp only[aG,e4,u4,v4,jL,aB,seval,m8]
    exact⟨p,_,_,rfl,f4 _,mC _,⟨2,kP _⟩,D4 _,by rw[hy,←i1];simp only[mH,jO,fE,eW,kN,gY,jD,bF,bD]⟩
   have g0:=bP (show 0≤L by omega)
   have g1:=bB h0
   by_cases h2:1≤L∧L≤2001
   case neg=>
    have hb:(decide (1≤L)&&decide (L≤2001))=false:=by
     cases hx:(decide (1≤L)&&decide (L≤2001)) with
     | false=>rfl
     | true=>simp only[bG,bK] at hx;exact absurd hx h2
    rw[hb] at hwi
    obtain⟨q1,q2⟩:=hng.1 ⟨by omega,h2⟩
    rw[aHN (xY q1 q2)] at i1
    simp only[gI] at i1
    simp only[g0,aV,aB,seval]
    refine(hwi _).to ?_
    simp only[fM,aG,e4,u4,v4,jL,aB,seval,m8]
    exact⟨p,_,_,rfl,f4 _,mC _,⟨2,kP _⟩,D4 _,by rw[hy,←i1];simp only[mH,jO,fE,eW,kN,lD,jD,bF,bD];rfl⟩
   have hb:(decide (1≤L)&&decide (L≤2001))=true:=by simp only[bG,bK];exact h2
   rw[hb] at hwi
   simp only[g0,aV,aB,seval]
   refine(hwi _).to ?_
   simp only[fA,g1,a8,aE,hw,aB,seval,m8]
   by_cases h3:(b.length:Int)<L+2
   case pos=>
    have g3:=bP h3
    simp only[g3,aV,aB,seval]
    have hn:gD b=0:=hz.2 (.inr ⟨h2,h3⟩)
    rw[OB hn] at i1
    simp only[gI] at i1
    refine(K8 b _ (by omega)).to ?_
    simp only[aG,e4,u4,v4,jL,aB,seval,m8]
    exact⟨p,_,_,rfl,f4 _,mC _,⟨2,kP _⟩,D4 _,by rw[hy,←i1];simp only[mH,jO,fE,eW,kN,gY,jD,bF,bD]⟩
   have g3:=bB h3
   simp only[g3,a8,aB,seval]
   have hge:¬b.length<2:=fun h=>by rw[EO h] at hL;omega
   have hLF:L=(dJ b:Int):=by rw[←hL,EN hge]
   have hN:=ES hge (by omega) (by omega)
   have hw':IntKind.i64.wrap (L+2)=((2+dJ b:Nat):Int):=by rw[hw];omega
   obtain⟨z,hz2⟩:∃z,b[2]?=some z:=⟨_,d4 (by omega)⟩
   have EF:dP prog 22 (.slice (b.map a7)) (.int .i64 2)=some (.pptr (a7 z)):=bR (av:=a7) (i:=2) eV hz2 rfl
   have hff:kQ b=((z.val:Int),vG ((b.take (2+dJ b)).drop 3)):=by unfold kQ;rw[hz2];try rfl
   have hfv:=fun st=>LB (kQ b) st
   rw[hff] at hfv hN
   simp only[bC] at hfv
   have hsl:=fun φ h1 h2=>aG5 (φ:=φ) (x:=.const (.int .i64 3)) (y:=.tmp 58) (l:=b) (k:=3) (m:=2+dJ b) h1 h2 (by omega) (by omega)
   have hcv:=SS ((b.take (2+dJ b)).drop 3)
   have aTN:=fun φ h=>aG6 (φ:=φ) (x:=.tmp 73) (l:=b) (k:=2+dJ b) h (by omega)
   refine wX [(0,1),(1,1),(2,1),(3,1),(4,1),(5,1),(6,1),(7,1),(8,1),(9,1),(10,0),(11,2)] [0,1,2,3,4,5,6,7,8,9] dW mixed rfl cY ?_
   simp only[EF,ST,a7,hw',aB,seval,m8]
   rw[hsl _ (by rfl) (by simp only[aB,seval])]
   simp only[aG,hcv,d3,aB,seval,m8]
   intro b9 hb9
   refine⟨cY,?_⟩
   generalize hG:vG ((b.take (2+dJ b)).drop 3)=s at *
   obtain⟨h5,h6⟩:=QG hb9
   have hW:∀o:AO,(aU s0 p (acc.map bC)).aC b9 o=aU (s0.aC b9 o) p (acc.map bC):=fun o=>nF h6
   have j3:∀o:AO,aJ (s0.aC b9 o) (aA.aC st b4 (.cells [.fslice [],.bool false])):=fun o=>i3.aC ((i3 b9).1 h5)
   have j4:∀o:AO,acc.map bC≠[]→(s0.aC b9 o) p=none:=fun o h=>by rw[aA.aO _ _ (dM (h6 h))];exact i4 h
   have j9:∀o:AO,(aU (s0.aC b9 o) p (acc.map bC)) b9=some o:=fun o=>by rw[wY h6,aA.aK]
   have j3:=j3 (.cells [.int .i64 (z.val:Int),.str s])
   have j4:=j4 (.cells [.int .i64 (z.val:Int),.str s])
   have j9:=j9 (.cells [.int .i64 (z.val:Int),.str s])
   rw[hW]
   obtain⟨E4,U4,V4,F4,X4⟩:=F _ j3 j4
   generalize s0.aC b9 (.cells [.int .i64 (z.val:Int),.str s])=s1 at *
   refine(hfv _).to ?_
   cases hfo:gB ((z.val:Int),s) with
   | false=>
    rw[hfo,aH (by simp)] at hN
    rw[aHN hN] at i1
    simp only[gI] at i1
    simp only[fM,aG,jL,E4,U4,V4,aB,seval,m8]
    exact⟨p,_,_,rfl,F4 _,mC _,⟨2,kP _⟩,X4 _,by rw[hy,←i1];simp only[mH,jO,fE,eW,kN,lD,jD,bF,bD];rfl⟩
   | true=>
    rw[hfo,aN rfl] at hN
    rw[aHO (by omega),hff] at i1
    simp only at i1
    simp only[fA,j9,aB,seval,m8]
    refine eE jQ nJ nK rfl rfl (gZ rfl rfl) (kP _) j4 (by simp only[aE,aY,aW];omega) (by simp only[aE,aY,aW];omega) (fun p' hp'=>?_)
    rw[show acc.map bC++ [.agg [.int .i64 (z.val:Int),.str s]]=(acc++ [((z.val:Int),s)]).map bC by simp [bC]] at hp' ⊢
    simp only[hw',aB,seval]
    rw[aTN _ (by simp only[aB,seval])]
    simp only[aB,seval]
    refine⟨(b.drop (2+dJ b),acc++ [((z.val:Int),s)],p',s1),by simp only[jZ];omega,⟨?_,?_,j3,hp'⟩,aP.mk (by simp only[aB,seval]<;>rfl)⟩
    · rw[←i1];simp
    · simp only[cX,aY,aW,jZ];omega
def wB(t:ByteArray):List Bt:=(sb t).map fun x=>⟨x.toNat,x.toNat_lt⟩
theorem aXH(t:ByteArray):(wB t).length=t.size:=by rw[wB,aE,bX]
theorem aXG(t:ByteArray):(wB t).map a7=m4 t:=by
 unfold wB m4
 rw[List.map_map]
 try rfl
theorem aL7(t:ByteArray):vG (wB t)=t:=by
 unfold vG wB
 rw[List.map_map]
 have:((fun x:Bt=>UInt8.ofNat x.val)∘fun x:UInt8=>(⟨x.toNat,x.toNat_lt⟩:Bt))=id:=by
  funext x
  simp
 rw[this,List.map_id]
def jR(f:Fr):List Bt:=⟨(f.2.size+1) / 256 % 256,sX _ (by decide)⟩::⟨(f.2.size+1) % 256,sX _ (by decide)⟩::⟨f.1.toNat % 256,sX _ (by decide)⟩::wB f.2
theorem tT(f:Fr):(jR f).length=3+f.2.size:=by simp only[jR,aY,aXH];omega
def j8(l:List Fr):List Bt:=l.flatMap jR
theorem HP{f:Fr}(h:gB f=true):1≤f.1∧f.1≤7∧f.2.size≤2000:=by
 simp only[gB,yP,bG,bK] at h
 omega
theorem TA{l:List Fr}(h:∀f∈l,gB f=true):(j8 l).length≤2003*l.length:=by
 induction l with
 | nil=>simp [j8]
 | cons f l ih=>
  have h1:=ih fun g hg=>h g (by simp [hg])
  have h2:=(HP (h f (by simp))).2.2
  simp only[j8,yZ,cX,aY,tT] at h1 ⊢
  omega
theorem aXL{f:Fr}(h:gB f=true)(r:List Bt):eS (jR f++r)=(f::(eS r).1,(eS r).2):=by
 obtain⟨h1,h2,h3⟩:=HP h
 have hl:dJ (jR f++r)=f.2.size+1:=by
  show(f.2.size+1) / 256 % 256*256+(f.2.size+1) % 256=_
  have:(f.2.size+1) / 256<256:=by omega
  rw[CV this]
  omega
 have hlen:(jR f++r).length=3+f.2.size+r.length:=by rw[cX,tT]
 have hf:kQ (jR f++r)=f:=by
  unfold kQ
  rw[hl]
  have e1:(((jR f++r)[2]?).map fun x=>(x.val:Int)).getD 0=f.1:=by
   show((f.1.toNat % 256:Nat):Int)=f.1
   omega
  have e2:((jR f++r).take (2+(f.2.size+1))).drop 3=wB f.2:=by
   rw[List.take_left' (by rw[tT];omega)]
   try rfl
  rw[e1,e2,aL7]
 have hn:gD (jR f++r)=((2+(f.2.size+1):Nat):Int):=by
  rw[ES (by omega) (by rw[hl];omega) (by rw[hl];omega),hf,aN h,hl]
 rw[aHO (by rw[hn];omega),hf,hl,List.drop_left' (by rw[tT];omega)]
theorem aHL:∀ {l:List Fr},(∀f∈l,gB f=true)→eS (j8 l)=(l,[],false)
 | [],_=>OB (by decide)
 | f::l,h=>by
  rw[j8,yZ,aXL (h f (by simp))]
  have:=aHL (l:=l) fun g hg=>h g (by simp [hg])
  rw[j8] at this
  rw[this]
theorem aR6{l:List Fr}(h:∀f∈l,gB f=true):iE [] false (j8 l)=(([],false),l):=by
 unfold iE
 rw[aH (by decide),dI,aHL h]
theorem aKV{P:Program}{t t':TypeId}{ag:Bool}{bytes:Nat}{zs es:List AV}{st:aA}{tx:ByteArray}{K:AV→aA→Prop}(hI:eI P t=some (ag,1))(hB:eB P t=some bytes)(hZ:eZ P t=some zs)(hz:zs.length=1)(hu:P.underlying t'=some .string)
 (hne:es≠[]) (h1:(es.length+tx.size)*bytes≤140737488355328) (h2:es.length+tx.size≤9223372036854775807) (hw:∀e∈es,e.width=1) (h0:tx.size=0→K (.fslice es) st)
 (hK:tx.size≠0→∀b,st b=none→K (.mslice b 0 (es.length+tx.size) 1) (st.aC b (.cells (es.flatMap AV.cells++m4 tx)))):qI P t t' st (.fslice es) (.str tx) K:=by
 refine .inl ⟨tx,rfl,?_⟩
 unfold DA
 simp only[hI,hB,hZ,hu]
 exact⟨hz,trivial,hne,h1,h2,hw,h0,hK⟩
def xB(f:Fr):List AV:=[.int .u8 (((f.2.size+1) / 256 % 256:Nat):Int),.int .u8 (((f.2.size+1) % 256:Nat):Int),.int .u8 ((f.1.toNat % 256:Nat):Int)]
theorem MB(f:Fr):(jR f).map a7=xB f++m4 f.2:=by
 simp only[jR,bF,aXG]
 rfl
theorem TB{f:Fr}{st:aA}{K:AV→aA→Prop}(hf:f.2.size≤1000000){P:Program}{t t':TypeId}{ag:Bool}(hI:eI P t=some (ag,1))(hB:eB P t=some 1){zs:List AV}(hZ:eZ P t=some zs)(hz:zs.length=1)(hu:P.underlying t'=some .string)
 (hK:∀r s,(r=.fslice ((jR f).map a7)∧s=st∨∃b,st b=none∧r=bQ 1 b ((jR f).map a7)∧s=aU st b ((jR f).map a7))→K r s):qI P t t' st (.fslice (xB f)) (.str f.2) K:=by
 have hl:(xB f).length=3:=rfl
 refine aKV hI hB hZ hz hu (by simp [xB]) (by rw[hl];omega) (by rw[hl];omega) (by simp [xB,AV.width]) (fun h=>?_) (fun h b hb=>?_)
 · refine hK _ _ (.inl ⟨?_,rfl⟩)
   rw[MB,rM (show(m4 f.2).length=0 by rw[N9];exact h),gI]
 · refine hK _ _ (.inr ⟨b,hb,?_,?_⟩)
   · rw[MB,tH (by simp [xB]),cX,hl,N9]
   · rw[MB,lO (by simp [xB])]
     congr 2
     have:(m4 f.2).flatMap AV.cells=m4 f.2:=by
      unfold m4
      induction f.2.data.toList with
      | nil=>rfl
      | cons x l ih=>simp only[bF,yZ,ih];rfl
     rw[wM,this]
theorem aWY{n:Nat}(h:n<9223372036854775807):tE .shr .i64 (n:Int) 8=some (.int .i64 ((n / 256:Nat):Int)):=by
 unfold tE
 rw[aH (by decide)]
 simp only
 congr 2
 show Int.fdiv (n:Int) (2 ^ 8)=_
 rw[Int.fdiv_eq_ediv_of_nonneg _ (by decide)]
 omega
abbrev aXX:=zi aX (zi gE (zi cG (zi f0 (zi lZ aIH))))
theorem aMS(f:Fr)(hf:f.2.size≤1000000)(h0:0≤f.1)(st:aA):aD prog 51 [bC f] st (fun r st'=>r=bT (jR f)∧st'=st):=by
 have fO:=fun K hK=>TB (f:=f) (st:=st) (K:=K) hf (P:=prog) (t:=22) (t':=9) eV l9 mA rfl (by kernel_rfl) hK
 obtain⟨k,t⟩:=f
 simp only at hf h0 fO
 simp only[bC]
 have hw:=bH (n:=(t.size:Int)+1)
 have hs8:tE .shr .i64 ((t.size:Int)+1) 8=some (.int .i64 (((t.size+1) / 256:Nat):Int)):=by
  rw[show((t.size:Int)+1)=((t.size+1:Nat):Int) by omega]
  exact aWY (by omega)
 have b1:=zZ (k:=((t.size+1) / 256:Nat)) (by omega)
 rw[fV] at b1
 have b2:=zZ (k:=(t.size:Int)+1) (by omega)
 rw[show((t.size:Int)+1).toNat=t.size+1 by omega] at b2
 have b3:=zZ (k:=k) h0
 have h64:((8:Int)<0)=False:=bB (by decide)
 refine aD.fin ?_
 refine wF [1000000] 1 func51 ntmps51 rfl rfl ?_
 intro _
 simp only[hw,kJ,hs8,b1,b2,b3,aB,seval,aXX]
 refine fO _ ?_
 rintro r s (⟨rfl,rfl⟩ | ⟨b,hb,rfl,rfl⟩)
 · simp only[aB,seval]
   exact⟨0,[],s,rfl,by simp,by simp,⟨1,by simp⟩,by simp only[lD],rfl⟩
 · simp only[aB,seval]
   exact⟨b,_,st,rfl,fun _=>hb,oL _,⟨1,l7 _⟩,kY,rfl⟩
abbrev aXW:=zi aX (zi gE (zi cG (zi f0 lZ)))
theorem aMW(f:Fr)(hf:f.2.size≤1000000)(h0:0≤f.1)(st:aA):aD prog 186 [bC f] st (fun r st'=>r=bT (jR f)∧st'=st):=by
 have fO:=fun K hK=>TB (f:=f) (st:=st) (K:=K) hf (P:=prog) (t:=22) (t':=9) eV l9 mA rfl (by kernel_rfl) hK
 obtain⟨k,t⟩:=f
 simp only at hf h0 fO
 simp only[bC]
 have hw:=bH (n:=(t.size:Int)+1)
 have hq:((t.size:Int)+1).tdiv 256=(((t.size+1) / 256:Nat):Int):=by
  rw[show((t.size:Int)+1)=((t.size+1:Nat):Int) by omega];try rfl
 have hr:((t.size:Int)+1).tmod 256=(((t.size+1) % 256:Nat):Int):=by
  rw[show((t.size:Int)+1)=((t.size+1:Nat):Int) by omega];try rfl
 have hw2:=bH (n:=(((t.size+1) / 256:Nat):Int))
 have hw3:=bH (n:=(((t.size+1) % 256:Nat):Int))
 have b1:=zZ (k:=((t.size+1) / 256:Nat)) (by omega)
 rw[fV] at b1
 have b2:=zZ (k:=((t.size+1) % 256:Nat)) (by omega)
 rw[fV,Nat.mod_mod] at b2
 have b3:=zZ (k:=k) h0
 refine aD.fin ?_
 refine wF [1000000] 1 func186 ntmps186 rfl rfl ?_
 intro _
 simp only[hw,hw2,hq,hr,kJ,b1,b2,b3,aB,seval,aXW]
 refine fO _ ?_
 rintro r s (⟨rfl,rfl⟩ | ⟨b,hb,rfl,rfl⟩)
 · simp only[aB,seval]
   exact⟨0,[],s,rfl,by simp,by simp,⟨1,by simp⟩,by simp only[lD],rfl⟩
 · simp only[aB,seval]
   exact⟨b,_,st,rfl,fun _=>hb,oL _,⟨1,l7 _⟩,kY,rfl⟩
abbrev FC:=zi aX (zi cD (zi f0 (zi kU lZ)))
theorem aOJ(l:List Fr)(hl:l.length≤1000)(st:aA):aD prog 146 [bA l] st (fun r st'=>∃(x:List Bt) (b:Nat),x.length≤2003*l.length∧(x.map a7≠[]→st b=none)∧r=bQ 1 b (x.map a7)∧st'=aU st b (x.map a7)):=by
 refine aD.pN ?_
 refine wF [1000000] 1 func146 ntmps146 rfl rfl ?_
 intro _
 simp only[aB,seval,FC]
 refine d7 (σ:=List Bt×Nat) [1000000] [0] l (fun i p=>p.1.length≤2003*i∧(p.1.map a7≠[]→st p.2=none)) (fun i p=>[(2,.fslice []),(3,bQ 1 p.2 (p.1.map a7)),(4,.int .i64 i)]) (fun i p=>aU st p.2 (p.1.map a7)) (by decide +kernel) ⟨([],0),⟨by simp,fun h=>absurd rfl h⟩,aP.mk (by simp only[jM,bD,aB,↓a9,seval])⟩ (fun i x p hx hlt bN hdr hinv=>?_) (fun p hge hinv=>?_)
 case refine_2=>
  obtain⟨acc,b⟩:=p
  obtain⟨h1,hb⟩:=hinv
  simp only at h1 hb
  simp only[hge,aE,aB,seval,FC]
  exact⟨_,aJ.refl _,acc,b,h1,hb,rfl,rfl⟩
 obtain⟨acc,b⟩:=p
 obtain⟨h1,hb⟩:=hinv
 simp only at h1 hb
 have hw:=bH (n:=(i:Int)+1)
 have hat:=bR (av:=bC) (P:=prog) jQ hx (nL x)
 have hfv:=fun s=>LM x s
 simp only[bN,aE,hat,nL,tY,aB,seval,FC]
 refine(hfv _).to ?_
 cases hok:gB x with
 | false=>
  simp only[fM,aB,seval,FC]
  exact⟨st,(aJ.refl st).aU hb,[],0,by simp,fun h=>absurd rfl h,rfl,rfl⟩
 | true=>
  obtain⟨k1,k2,k3⟩:=HP hok
  simp only[fA,hat,nL,tY,aB,seval,FC]
  refine(aMW x (by omega) (by omega) _).to ?_
  simp only[aB,seval]
  refine eE (xs:=(jR x).map a7) eV l9 mA rfl rfl (pL _) (l7 _) hb (by simp only[aE,tT];omega) (by simp only[aE,tT];omega) (fun b' hb'=>?_)
  rw[←pA] at hb' ⊢
  simp only[hw,aB,seval]
  exact⟨(acc++jR x,b'),⟨by simp only[cX,tT];omega,hb'⟩,aP.mk (by simp only[aB,seval])⟩
theorem aMD(b:Nat)(l:List AV)(st:aA):aD prog 52 [bQ 1 b l] st (fun r st'=>r=bQ 1 b l∧st'=st):=by
 cases l with
 | nil=>
  simp only[jM]
  refine wF [1000000] 1 func52 ntmps52 rfl rfl ?_
  intro _
  have hcl:=fun(φ:AF) (y z:Operand) (h:φ.eval y=.int .i64 0) (h':φ.eval z=.int .i64 0)=>aKE (P:=prog) (t:=22) eV h h'
  simp only[hcl,aW,aB,seval,f0]
 | cons x l=>
  rw[tH (by simp)]
  generalize (x::l).length=n
  refine wF [1000000] 1 func52 ntmps52 rfl rfl ?_
  intro _
  have hcl:=fun(φ:AF) (y z:Operand) (h:φ.eval y=.int .i64 (n:Int)) (h':φ.eval z=.int .i64 (n:Int))=>aKD (P:=prog) (t:=22) (b:=b) (off:=0) eV h h'
  simp only[hcl,aB,seval,f0]
abbrev OO:=zi aX (zi cD (zi f0 (zi kU lZ)))
theorem aMP(l:List Fr)(hl:l.length≤1000)(cZ:∀f∈l,gB f=true)(st:aA):aD prog 18 [bA l] st (fun r st'=>r=bT (j8 l)∧st'=st):=by
 refine aD.fin ?_
 have hE:j8 (l.take 0)= []:=by simp [j8]
 have hlen:∀i,(j8 (l.take i)).length≤2003*1000:=fun i=>by
  have:=TA (l:=l.take i) fun f hf=>cZ f (mJ hf)
  rw[dE] at this
  omega
 refine wF [1000000] 1 func18 ntmps18 rfl rfl ?_
 intro _
 simp only[aE,aB,seval,OO]
 refine d7 (σ:=Nat) [1000000] [6,7] l (fun i b=>((j8 (l.take i)).map a7≠[]→st b=none)) (fun i b=>[(2,.fslice []),(3,bQ 1 b ((j8 (l.take i)).map a7)),(8,.int .i64 i)]) (fun i b=>aU st b ((j8 (l.take i)).map a7)) (by decide +kernel) ⟨0,by rw[hE];exact fun h=>absurd rfl h,by rw[hE];exact aP.mk (by simp only[jM,bD,aB,↓a9,seval])⟩ (fun i x b hx hlt bN hdr hinv=>?_) (fun b hge hinv=>?_)
 case refine_2=>
  rw[dR] at hinv ⊢
  simp only[hge,aB,seval]
  refine(aMD b _ _).to ?_
  simp only[aB,seval]
  exact⟨b,_,st,rfl,hinv,oL _,⟨1,l7 _⟩,kY,rfl⟩
 have hw:=bH (n:=(i:Int)+1)
 have hat:=bR (av:=bC) (P:=prog) jQ hx (nL x)
 have hfv:=fun s=>LB x s
 have hok:=cZ x (cQ hx)
 rw[hok] at hfv
 obtain⟨k1,k2,k3⟩:=HP hok
 have htk:j8 (l.take (i+1))=j8 (l.take i)++jR x:=by rw[eD,hx];simp [j8]
 have hli:=hlen i
 generalize j8 (l.take i)=acc at *
 simp only[bN,hat,nL,tY,AJ,aSF,aB,↓a9,seval,OO]
 refine(hfv _).to ?_
 simp only[fA,nL,tY,aB,seval,OO]
 refine(aMS x (by omega) (by omega) _).to ?_
 simp only[aB,seval]
 refine eE (xs:=(jR x).map a7) eV l9 mA rfl rfl (pL _) (l7 _) hinv (by simp only[aE,tT];omega) (by simp only[aE,tT];omega) (fun b' hb'=>?_)
 rw[←pA,←htk] at hb' ⊢
 simp only[hw,aB,seval]
 exact⟨b',hb',aP.mk (by simp only[aB,seval])⟩
abbrev aH3:=zi aX (zi cD (zi f0 (zi kU uV)))
theorem aMN(l:List Fr)(hl:l.length≤1000)(cZ:∀f∈l,gB f=true)(st:aA):aD prog 17 [bT (j8 l)] st (fun r st'=>r=.tup [bA l,.bool true]∧st'=st):=by
 have hfd:=fun s=>aMQ [] false (j8 l) s (by have:=TA cZ;simp only[aW];omega)
 rw[aR6 cZ] at hfd
 simp only[mH,jO] at hfd
 refine wF [1000000] 1 func17 ntmps17 rfl rfl ?_
 intro _
 simp only[aB,seval,aH3]
 refine aD.to (aD.nY (by simp only[fT,AV.soft];exact hfd _)) ?_
 simp only[aW,aB,↓a9,seval,aH3]
theorem dA.aJJ{h:aZ}{st s0:aA}(S:bZ h st):∀ {xs os:List AV} {vs:List Value},dA st s0 xs os→cW h st os vs→cW h s0 xs vs
 | [],os,cs,x,y=>by simp only[dA] at x;subst x;exact y
 | a::xs,os,cs,x,y=>by
  obtain⟨o,os',rfl,x1,x2⟩:=x
  simp only[cW] at y ⊢
  obtain⟨c,r,e,y1,y2⟩:=y
  exact⟨c,r,e,⟨x1.1.symm.trans y1.1,x1.2.2.2 h _ S y1.2⟩,dA.aJJ S x2 y2⟩
theorem Told.tup{st s0:aA}{xs os:List AV}(x:dA st s0 xs os):Told st s0 (.tup xs) (.tup os):=
 ⟨rfl,rfl,rfl,fun h cs S y=>by
  simp only[VC] at y ⊢
  obtain⟨vs,e,y⟩:=y
  exact⟨vs,e,x.aJJ S y⟩⟩
theorem dA.replicate{st s0:aA}{a o:AV}:∀n:Nat,Told st s0 a o→dA st s0 (List.replicate n a) (List.replicate n o)
 | 0,_=>rfl
 | n+1,h=>by rw[KE,KE];exact .cons h (dA.replicate n h)
def HB:dT:=⟨[],false,[],[],false,IY,false,[]⟩
abbrev aH4:=zi aX (zi cD (zi uT p7))
theorem aOP(n:Nat)(q:Int)(hn:n≤4)(h0:0≤q)(h1:q≤300)(st:aA):aD prog 143 [.int .i64 (n:Int),.int .i64 q] st (fun r st'=>r=.tup [fZ ⟨List.replicate n HB,q⟩,.bool true]∧st'=st):=by
 refine aD.told ?_
 have n1:=bB (show ¬(n:Int)<0 by omega)
 have n2:=bB (show ¬(4:Int)<(n:Int) by omega)
 have n3:=bB (show ¬q<0 by omega)
 have n4:=bB (show ¬(300:Int)<q by omega)
 refine wF [1000000] 2 func143 ntmps143 rfl rfl ?_
 intro _
 simp only[n1,n2,n3,n4,a8,aB,seval,aH4]
 intro b4 h4
 simp only[tC,aG,aB,↓a9,seval,aH4]
 refine⟨by omega,by omega,by omega,fun b hb=>?_⟩
 rw[fV,NE _ (by simp)]
 have hne:b4≠b:=by rintro rfl;rw[aA.aK] at hb;cases hb
 have hst:st b=none:=by rw[aA.aO _ _ hne.symm] at hb;exact hb
 have e4:((st.aC b4 (.cells [.fslice [],.int .i64 0])).aC b (.cells (List.replicate n [AV.fslice [],AV.bool false,AV.fslice [],AV.fslice [],AV.bool false,AV.fslice [],AV.fslice [],AV.int .i64 0,AV.int .i64 0,AV.int .i64 0,AV.int .i64 0,AV.bool false,AV.fslice []]).flatten)) b4=some (.cells [.fslice [],.int .i64 0]):=by rw[aA.aO _ _ hne,aA.aK]
 have D:∀o o' o'',aJ (((st.aC b4 o).aC b o').aC b4 o'') st:=fun o o' o''=>(((aJ.refl _).aC h4).aC hst).aC h4
 simp only[e4,aB,seval]
 refine⟨_,st,D _ _ _,?_,rfl,rfl⟩
 have T:=fun h=>(D (.cells [.fslice [],.int .i64 0]) (.cells (List.replicate n [AV.fslice [],AV.bool false,AV.fslice [],AV.fslice [],AV.bool false,AV.fslice [],AV.fslice [],AV.int .i64 0,AV.int .i64 0,AV.int .i64 0,AV.int .i64 0,AV.bool false,AV.fslice []]).flatten) (.cells [.mslice b 0 n 13,.int .i64 q])).step h
 refine Told.tup (.cons (Told.agg (.cons (Told.block (os:=List.replicate n (.agg [AV.fslice [],AV.bool false,AV.fslice [],AV.fslice [],AV.bool false,AV.fslice [],AV.fslice [],AV.int .i64 0,AV.int .i64 0,AV.int .i64 0,AV.int .i64 0,AV.bool false,AV.fslice []])) ?_ hst ?_ (AA _) (by simp)) (.cons (Told.same T rfl) .nil))) (.cons (Told.same T rfl) .nil))
 · rw[aA.aO _ _ hne.symm,aA.aK]
   congr 2
   simp [List.flatMap_def,List.map_replicate,AV.cells]
 · have S:∀ {a:AV},a.bO=false→Told _ st a a:=fun h=>Told.same T h
   have Z:Told _ st (.slice []) (.fslice []):=⟨rfl,rfl,rfl,fun h cs S y=>VC.mono (T h) _ _ (VC.soft (.fslice []) cs y)⟩
   rw[List.map_replicate]
   refine dA.replicate n (Told.agg ?_)
   exact .cons Z (.cons (S rfl) (.cons Z (.cons Z (.cons (S rfl) (.cons Z (.cons Z (.cons (S rfl) (.cons (S rfl) (.cons (S rfl) (.cons (S rfl) (.cons (S rfl) (.cons Z .nil))))))))))))
theorem GU{st:aA}{l1 l2:List Fr}{x:AV}{K:AV→aA→Prop}(hx:x=.slice (l2.map bC)∨x=.fslice (l2.map bC))(hl:l1.length+l2.length≤100)(hK:∀q s,Lit st 2 ((l1++l2).map bC) q s→K q s):i8 prog 39 st (.fslice (l1.map bC)) x K:=by
 refine QP jQ nJ nK rfl hx (kP _) (t5 _) (by simp only[aE];omega) (by simp only[aE];omega) (fun q s h=>hK q s ?_)
 rw[pA]
 exact h
theorem Lit.aSG{st s:aA}{l:List Fr}{q:AV}(h:Lit st 2 (l.map bC) q s):wR s st∧s9 s q st (bA l):=by
 rcases h with ⟨rfl,rfl⟩ | ⟨b,hb,rfl,rfl⟩
 · exact⟨(aJ.refl _).o5,fun h v S y=>y.soft⟩
 · have D:aJ (st.aC b (.cells ((l.map bC).flatMap AV.cells))) st:=(aJ.refl _).aC hb
   exact⟨D.o5,fun h v S y=>(Told.block (aA.aK _ _ _) hb (dA.same (fun h=>D.step h) (mC l)) (kP l) rfl).CJ S y⟩
abbrev FD:=zi FL (zi aX (zi O5 (zi uU (zi cG (zi lK (zi cI (zi kU (zi rD (zi sQ O1)))))))))
set_option maxHeartbeats 1000000 in
theorem aM4(bs:List Bt)(c p:Nat)(st:aA)(hp:p+200≤1099511627776)(hR:fC st c bs p) :
 aD prog 147 [.ptr c 0] st (Dr bs c p 200 st (fun r=>∃l:List Fr,l.length≤4∧(∀f∈l,f.2.size≤1000000)∧r=bA l)):=by
 refine aD.aDX ?_
 have fO:∀(k:Nat) (L:List Fr) (q:AV) (s:aA),L.length≤4→(∀f∈L,f.2.size≤1000000)→p≤k→k≤p+200→Lit (st.aC c (fK bs k)) 2 (L.map bC) q s→∃r2 s2,(wR s s2∧s9 s q s2 r2)∧Dr bs c p 200 st (fun r=>∃l:List Fr,l.length≤4∧(∀f∈l,f.2.size≤1000000)∧r=bA l) r2 s2:=fun k L q s h1 h2 h3 h4 h=>⟨_,_,h.aSG,k,h3,h4,rfl,L,h1,h2,rfl⟩
 refine wF [1000000] 1 func147 ntmps147 rfl rfl ?_
 intro _
 simp only[aB,seval]
 refine(aN9 bs c p _ (by omega) hR).mono ?_
 rintro _ _ ⟨p1,r1,r2,rfl,l,q,⟨_,hl⟩,⟨_,hq⟩,rfl⟩
 simp only[aB,seval]
 refine(aON l hl _).mono ?_
 rintro _ _ ⟨⟨t1,ht1,rfl⟩,rfl⟩
 simp only[aB,seval]
 refine(tN _ _ _).to ?_
 simp only[aB,seval]
 refine(RE q hq _).mono ?_
 rintro _ _ ⟨⟨t2,ht2,rfl⟩,rfl⟩
 simp only[aB,seval]
 refine(tN _ _ _).to ?_
 simp only[nL,tY,AJ,aB,seval,FD]
 refine(tP bs c p1 (by omega) 8 (by omega) (by omega) _ fC.new).mono ?_
 rintro _ _ ⟨k,hk,rfl,rfl⟩
 rw[d3]
 simp only[aB,seval]
 refine bE (fun h0=>?_) (fun h0=>?_)
 · simp only[aB,seval]
   refine(tN _ _ _).to ?_
   simp only[aB,seval]
   refine(RE q hq _).mono ?_
   rintro _ _ ⟨⟨t3,ht3,rfl⟩,rfl⟩
   simp only[aB,seval]
   refine(tN _ _ _).to ?_
   simp only[nL,tY,AJ,aB,seval,FD]
   refine GU (l1:=[(1,t1),(2,t2)]) (l2:=[(3,⟨#[]⟩),(2,t3)]) (.inr rfl) (by simp) (fun q s hq=>?_)
   have he:=fO _ _ q s (by simp) (by intro f hf;simp only[gO,dI,cT,dF,dS] at hf;rcases hf with rfl | rfl | rfl | rfl<;>first | assumption | (simp only;omega) | decide) (by omega) (by omega) hq
   rcases hq with ⟨rfl,rfl⟩ | ⟨b,hb,rfl,rfl⟩
   · simp only[aB,seval]
     exact he
   · simp only[aB,seval]
     exact he
 simp only[aB,seval]
 refine bE (fun h0=>?_) (fun h0=>?_)
 · simp only[aB,seval]
   refine(tN _ _ _).to ?_
   simp only[aB,seval]
   refine(tN _ _ _).to ?_
   simp only[nL,tY,AJ,aB,seval,FD]
   refine GU (l1:=[(1,t1),(2,t2)]) (l2:=[(1,⟨#[120]⟩),(2,⟨#[65]⟩)]) (.inr rfl) (by simp) (fun q s hq=>?_)
   have he:=fO _ _ q s (by simp) (by intro f hf;simp only[gO,dI,cT,dF,dS] at hf;rcases hf with rfl | rfl | rfl | rfl<;>first | assumption | (simp only;omega) | decide) (by omega) (by omega) hq
   rcases hq with ⟨rfl,rfl⟩ | ⟨b,hb,rfl,rfl⟩
   · simp only[aB,seval]
     exact he
   · simp only[aB,seval]
     exact he
 simp only[aB,seval]
 refine bE (fun h0=>?_) (fun h0=>?_)
 · simp only[aB,seval]
   refine(tN _ _ _).to ?_
   simp only[nL,tY,AJ,aB,seval,FD]
   refine GU (l1:=[(1,t1),(2,t2)]) (l2:=[(7,⟨#[]⟩)]) (.inr rfl) (by simp) (fun q s hq=>?_)
   have he:=fO _ _ q s (by simp) (by intro f hf;simp only[gO,dI,cT,dF,dS] at hf;rcases hf with rfl | rfl | rfl<;>first | assumption | (simp only;omega) | decide) (by omega) (by omega) hq
   rcases hq with ⟨rfl,rfl⟩ | ⟨b,hb,rfl,rfl⟩
   · simp only[aB,seval]
     exact he
   · simp only[aB,seval]
     exact he
 simp only[aB,seval]
 refine bE (fun h0=>?_) (fun h0=>?_)
 · simp only[aB,seval]
   refine(tN _ _ _).to ?_
   simp only[nL,tY,AJ,aB,seval,FD]
   refine GU (l1:=[(1,t1),(2,t2)]) (l2:=[(2,⟨#[116,114,117,101]⟩)]) (.inr rfl) (by simp) (fun q s hq=>?_)
   have he:=fO _ _ q s (by simp) (by intro f hf;simp only[gO,dI,cT,dF,dS] at hf;rcases hf with rfl | rfl | rfl<;>first | assumption | (simp only;omega) | decide) (by omega) (by omega) hq
   rcases hq with ⟨rfl,rfl⟩ | ⟨b,hb,rfl,rfl⟩
   · simp only[aB,seval]
     exact he
   · simp only[aB,seval]
     exact he
 simp only[aB,seval]
 exact fO _ [(1,t1),(2,t2)] _ _ (by simp) (by intro f hf;simp only[cT,dF,dS] at hf;rcases hf with rfl | rfl<;>first | assumption | (simp only;omega)) (by omega) (by omega) (.inl ⟨rfl,rfl⟩)
abbrev aXY:=zi aX (zi aIF (zi f0 (zi kU rD)))
theorem RB(bs:List Bt)(c p:Nat)(st:aA)(hp:p+300≤1099511627776)(hR:fC st c bs p) :
 aD prog 100 [.ptr c 0] st (Dr bs c p 300 st (fun r=>∃b:List Bt,b.length≤10000∧r=bT b)):=by
 refine aD.aDX ?_
 have fO:∀(q b:Nat) (x:List Bt),x.length≤10000→p≤q→q≤p+300→(x.map a7≠[]→(st.aC c (fK bs q)) b=none)→∃r2 s2,(wR (aU (st.aC c (fK bs q)) b (x.map a7)) s2∧s9 (aU (st.aC c (fK bs q)) b (x.map a7)) (bQ 1 b (x.map a7)) s2 r2)∧Dr bs c p 300 st (fun r=>∃b:List Bt,b.length≤10000∧r=bT b) r2 s2:=fun q b x g0 g1 g2 hb=>by
  have:=s9.fin (r:=bQ 1 b (x.map a7)) hb (oL _) ⟨1,l7 _⟩
  rw[kY] at this
  exact⟨_,_,this,q,g1,g2,rfl,x,g0,rfl⟩
 have hRq:∀(q b:Nat) (L:List AV),(L≠[]→(st.aC c (fK bs q)) b=none)→fC (aU (st.aC c (fK bs q)) b L) c bs q∧∀o,(aU (st.aC c (fK bs q)) b L).aC c o=aU (st.aC c o) b L∧(L≠[]→(st.aC c o) b=none):=fun q b L hb=>by
  have hne:L≠[]→c≠b:=fun h e=>by have:=hb h;rw[←e,aA.aK] at this;cases this
  refine⟨?_,fun o=>⟨?_,fun h=>?_⟩⟩
  · unfold fC
    by_cases h:L= []
    · rw[h,rT,aA.aK];try rfl
    · rw[tF (hne h),aA.aK];try rfl
  · rw[nF hne,d3]
  · have:=hb h
    rw[aA.aO _ _ (dM (hne h))] at this ⊢
    exact this
 refine wF [1000000] 1 func100 ntmps100 rfl rfl ?_
 intro _
 simp only[aB,seval]
 refine(aM4 bs c p _ (by omega) hR).mono ?_
 rintro _ _ ⟨p1,r1,r2,rfl,l,hl,hl2,rfl⟩
 simp only[aB,seval]
 refine(aOJ l (by omega) _).mono ?_
 rintro _ _ ⟨x,b,hx,hb,rfl,rfl⟩
 obtain⟨k1,k2⟩:=hRq _ _ _ hb
 simp only[aB,seval]
 refine(tP bs c p1 (by omega) 10 (by omega) (by omega) _ k1).mono ?_
 rintro _ _ ⟨k,hk,rfl,rfl⟩
 obtain⟨k3,k4⟩:=k2 (fK bs (p1+1))
 rw[k3]
 obtain⟨k1,k2⟩:=hRq _ _ _ k4
 simp only[aB,seval]
 refine bE (fun h0=>?_) (fun h0=>?_)
 · simp only[aB,seval,aXY]
   refine eE (xs:=([⟨0,by omega⟩,⟨0,by omega⟩]:List Bt).map a7) eV l9 mA rfl rfl (pL _) (l7 _) k4 (by simp only[aE,aY,aW];omega) (by simp only[aE,aY,aW];omega) (fun b' hb'=>?_)
   rw[←pA] at hb' ⊢
   simp only[aB,seval]
   exact fO _ _ _ (by simp only[cX,aY,aW];omega) (by omega) (by omega) hb'
 have hun:prog.underlying 22=some (.slice 5):=by kernel_rfl
 have haL:=DM (w:=1) (b:=b) (l:=x.map a7) hun
 rw[aE] at haL
 simp only[aB,seval]
 refine bE (fun h0=>?_) (fun h0=>?_)
 · simp only[haL,aB,seval]
   refine(SF bs c (p1+1) (by omega) x.length (by omega) _ k1).mono ?_
   rintro _ _ ⟨m,hm,rfl,rfl⟩
   obtain⟨k3,k4⟩:=k2 (fK bs (p1+1+1))
   rw[k3]
   cases x with
   | nil=>
    obtain rfl:m=0:=by simpa using hm
    have hsl:=fun(φ:AF) (d:Nat) (h:φ d=.int .i64 0)=>aG7 (P:=prog) eV h
    simp only[bD,jM,rT]
    simp only[hsl,aB,↓a9,seval]
    have:=fO (p1+1+1) 0 [] (by simp) (by omega) (by omega) (fun h=>absurd rfl h)
    simpa only[bD,jM,rT] using this
   | cons y x=>
    have hn:(y::x).map a7≠[]:=by simp
    have hb2:=k4 hn
    have hsl:=fun(φ:AF) (d:Nat) (h:φ d=.int .i64 (m:Int))=>aG9 (P:=prog) (b:=b) (n:=x.length+1) eV h (by simpa using hm)
    rw[tH hn,lO hn,aE,aY]
    simp only[hsl,aB,seval]
    have D:∀o,aJ ((st.aC c (fK bs (p1+1+1))).aC b o) (st.aC c (fK bs (p1+1+1))):=fun o=>(aJ.refl _).aC hb2
    have T:=Told.QZ (w:=1) (n:=m) (es:=((y::x).take m).map a7) (os:=((y::x).take m).map a7) (X:=(((y::x).drop m).map a7).flatMap AV.cells) (st:=(st.aC c (fK bs (p1+1+1))).aC b (.cells (((y::x).map a7).flatMap AV.cells))) (by rw[aA.aK,←wM,←pA,y7]) hb2 (dA.same (fun h=>(D _).step h) (oL _)) (l7 _) (by rw[aE,dE];omega)
    exact⟨_,_,⟨(D _).o5,fun h v S y=>T.CJ S y⟩,p1+1+1,by omega,by omega,rfl,(y::x).take m,by rw[dE];omega,rfl⟩
 simp only[aB,seval]
 exact fO _ _ _ (by omega) (by omega) (by omega) k4
theorem aVL{l:List UInt8}{p:List Cl}(h:nW l=some p):gK p=true:=by
 unfold nW at h
 simp only at h
 split at h
 · cases h
 · rename_i h1
   obtain⟨h2,h3⟩:=LS _ [] p (by simp) h
   have h4:(lC 10 l []).dropLast.length=(lC 10 l []).length - 1:=List.length_dropLast ..
   simp only[gK,bG,bK,dD]
   simp only[aW] at h3
   exact⟨by omega,fun c hc=>(h2 c hc).2⟩
theorem EZ:gK []=true:=by decide
theorem NV:eR []=true:=by decide
structure CI (k:Nat) (c:dT):Prop where
 ok:EV c.out
 out:c.out.length≤30*k
 wait:c.wait.length≤100000*k
 rest:c.rest.length≤10000*k
 prog:gK c.prog=true
 sp:gK c.ses.p=true
 sq:eR c.ses.q=true
theorem CI.sm{k:Nat}{c:dT}(h:CI k c)(hk:k≤9):c.rest.length≤2000000∧xA c∧c.wait.length≤1048576∧c.out.length≤1000000:=by
 obtain⟨h1,h2,h3,h4,h5,h6,h7⟩:=h
 have p1:=IM h5
 have p2:=IM h6
 have p3:=NW h7
 exact⟨by omega,⟨by omega,by omega,by omega,⟨by omega,p1.2⟩,⟨by omega,p2.2⟩,by omega,p3.2⟩,by omega,by omega⟩
theorem CI.more{k m:Nat}{c:dT}(h:CI k c)(hk:k≤m):CI m c:=⟨h.ok,by have:=h.out;omega,by have:=h.wait;omega,by have:=h.rest;omega,h.prog,h.sp,h.sq⟩
theorem CI.feed{k:Nat}{c:dT}{x:List Bt}(h:CI k c)(hk:k≤8)(hx:x.length≤10000):CI (k+1) (xD c x):=by
 obtain⟨h1,h2,h3,h4,h5,h6,h7⟩:=h
 obtain⟨f1,f2⟩:=aDV c.rest c.brk x
 exact⟨h1,by simp only[xD];omega,by simp only[xD,cX];omega,by simp only[xD];omega,h5,h6,h7⟩
theorem CI.send{k:Nat}{c:dT}{n:Int}{t:ByteArray}(h1:EV c.out)(h2:c.out.length≤30*k)(h3:c.wait.length≤100000*k)(h4:c.rest.length≤10000*k)(h5:gK c.prog=true)(h6:gK c.ses.p=true)(h7:eR c.ses.q=true)(hf:gB (n,t)=true)(hn:4≤n):CI (k+1) (sent c n t):=by
 refine⟨fun f hf'=>?_,by simp only[sent,cX,aY,aW];omega,by simp only[sent];omega,by simp only[sent];omega,h5,h6,h7⟩
 simp only[sent,kW,cT,dF,dS] at hf'
 rcases hf' with h | rfl
 · exact h1 f h
 · exact⟨hf,hn⟩
theorem aXE{s:Ss}{n:Int}(h:o0 s=true)(hn:0≤n):(qW s n).length≤20:=by
 have:=(N8 h hn).l
 unfold qW
 rw[jZ];omega
theorem CI.aX8{k:Nat}{c:dT}{qu n:Int}(h:CI k c)(hok:rZ c=true)(hn:0≤n):CI (k+1) (n9 c qu n):=by
 have hm:=h.more (Nat.le_succ k)
 obtain⟨h1,h2,h3,h4,h5,h6,h7⟩:=h
 simp only[rZ,bG,dD,kV,jI,bK] at hok
 obtain⟨k1,k2,k3,k4⟩:=hok
 unfold n9
 split
 · rename_i ha
   have hs:o0 c.ses=true:=by
    rcases k2 with k2 | k2
    · rw[ha] at k2;cases k2
    · exact k2.1
   have hl:=aXE hs hn
   have hap:EV (c.out++kZ c.ses.q (qW c.ses n)):=fun f hf=>by
    rcases kW.1 hf with hf | hf
    · exact h1 f hf
    · exact aKP _ _ f hf
   have hal:(kZ c.ses.q (qW c.ses n)).length≤20:=by unfold kZ;rw[aE];exact hl
   unfold IV
   split
   · exact⟨hap,by simp only[cX];omega,by simp only;omega,by simp only;omega,h5,h6,h7⟩
   · rename_i hf
     have hrg: -1≤(nH c.ses n).fin∧(nH c.ses n).fin≤9:=aD2 c.ses _
     refine⟨fun f hf'=>?_,by simp only[cX,aY,aW];omega,by simp only;omega,by simp only;omega,h5,EZ,NV⟩
     simp only[kW,cT,dF,dS] at hf'
     rcases hf' with h | rfl
     · exact hap f (kW.2 h)
     · exact⟨aPD _ (by omega),by simp⟩
 · split
   · rename_i f w hw
     have hwl:w.length≤100000*k:=by rw[hw] at h3;simp only[aY] at h3;omega
     unfold xK
     split
     · split
       · rename_i p hp
         exact CI.send h1 h2 hwl h4 (aVL hp) h6 h7 (by decide) (by decide)
       · exact CI.send h1 h2 hwl h4 h5 h6 h7 (by decide) (by decide)
     · split
       · split
         · rename_i q hq
           have hss:gK (sJ c.prog q qu).p=true∧eR (sJ c.prog q qu).q=true:=by
            unfold sJ
            split
            · exact⟨h5,(aGE hq).1⟩
            · exact⟨EZ,NV⟩
           exact⟨h1,by simp only;omega,by simp only;omega,by simp only;omega,h5,hss.1,hss.2⟩
         · exact CI.send h1 h2 hwl h4 h5 h6 h7 (by decide) (by decide)
       · split
         · exact CI.send h1 h2 hwl h4 EZ h6 h7 (by decide) (by decide)
         · exact CI.send h1 h2 hwl h4 h5 h6 h7 (by decide) (by decide)
   · split
     · exact CI.send h1 h2 h3 h4 h5 h6 h7 (by decide) (by decide)
     · exact hm
structure SI (k:Nat) (s:Sv):Prop where
 len:s.cs.length≤4
 all:∀c∈s.cs,CI k c
theorem SI.more{k m:Nat}{s:Sv}(h:SI k s)(hk:k≤m):SI m s:=⟨h.len,fun c hc=>(h.all c hc).more hk⟩
theorem SI.fed{k:Nat}{s:Sv}{j:Int}{x:List Bt}(h:SI k s)(hk:k≤8)(hx:x.length≤10000):SI (k+1) (tV s j x)∧(tV s j x).cs.length=s.cs.length:=by
 unfold tV
 split
 · split
   · rename_i c hc
     refine⟨⟨by simp only[List.length_set];exact h.len,fun y hy=>?_⟩,by simp only[List.length_set]⟩
     rcases PR hy with hy | rfl
     · exact(h.all y hy).more (Nat.le_succ k)
     · exact(h.all c (cQ hc)).feed hk hx
   · exact⟨h.more (Nat.le_succ k),rfl⟩
 · exact⟨h.more (Nat.le_succ k),rfl⟩
theorem SI.aX9{k:Nat}{s:Sv}{n:Int}(h:SI k s):SI (k+1) (CE s n)∧(CE s n).cs.length=s.cs.length:=by
 unfold CE
 split
 · rename_i hg
   refine⟨⟨by simp only[aE];exact h.len,fun y hy=>?_⟩,by simp only[aE]⟩
   obtain⟨c,hc,rfl⟩:=cL.1 hy
   have hs:=hg.2
   simp only[q7,bG,dD] at hs
   exact(h.all c hc).aX8 (hs.1 c hc) (by omega)
 · exact⟨h.more (Nat.le_succ k),rfl⟩
theorem CI.start:CI 0 HB:=⟨fun f hf=>absurd hf (dF),by decide,by decide,by decide,EZ,EZ,NV⟩
theorem SI.start(n:Nat)(hn:n≤4)(q:Int):SI 0 ⟨List.replicate n HB,q⟩:=⟨by simp only[List.length_replicate];exact hn,fun c hc=>by
 rw[List.eq_of_mem_replicate hc]
 exact CI.start⟩
theorem SI.sm{k:Nat}{s:Sv}(h:SI k s)(hk:k≤9):s.cs.length≤1048576∧(∀c∈s.cs,c.rest.length≤2000000∧xA c)∧(∀c∈s.cs,xA c∧c.wait.length≤1048576∧c.out.length≤1000000):=
 ⟨by have:=h.len;omega,fun c hc=>⟨((h.all c hc).sm hk).1,((h.all c hc).sm hk).2.1⟩,fun c hc=>((h.all c hc).sm hk).2⟩
abbrev sM:=zi FL (zi aX (zi f0 (zi kT (zi uT (zi p7 rD)))))
set_option maxHeartbeats 1000000 in
theorem aM1(bs:List Bt)(c p:Nat)(st:aA)(hp:p+5000≤1099511627776)(hR:fC st c bs p) :
 aD prog 98 [.ptr c 0] st (Dr bs c p 5000 st (fun r=>∃s:Sv,SI 8 s∧r=fZ s)):=by
 refine aD.pN ?_
 refine wF [1000000,3] 1 func98 ntmps98 rfl rfl ?_
 intro _
 simp only[aB,seval,sM]
 intro b2 h2
 have h2c:b2≠c:=hR.ne h2
 have hR2:=fun o=>hR.aC (o:=o) h2c
 refine(DV [2,1,3,0] (by simp) (by simp) bs c p (by omega) _ (hR2 _)).mono ?_
 rintro _ _ ⟨n0,hn0,rfl,rfl⟩
 obtain⟨n,rfl,hn⟩:∃n:Nat,n0=(n:Int)∧n≤4:=⟨n0.toNat,by simp only[cT,dF,dS] at hn0;omega,by simp only[cT,dF,dS] at hn0;omega⟩
 simp only[aB,seval,sM]
 refine(DV [60,100,20,7] (by simp) (by simp) bs c (p+1) (by omega) _ fC.new).mono ?_
 rintro _ _ ⟨qu,hqu,rfl,rfl⟩
 rw[d3]
 have aE0:0≤qu∧qu≤300:=by simp only[cT,dF,dS] at hqu;omega
 simp only[aB,seval]
 refine(aOP n qu hn aE0.1 aE0.2 _).to ?_
 have hSI:=SI.start n hn qu
 generalize (⟨List.replicate n HB,qu⟩:Sv)=s at *
 unfold fZ
 simp only[aB,↓a9,seval,sM]
 intro b3 h3
 have h32:b3≠b2:=by rintro rfl;rw[aA.aO _ _ h2c,aA.aK] at h3;cases h3
 have h3c:b3≠c:=by rintro rfl;rw[aA.aK] at h3;cases h3
 have h3':st b3=none:=by rw[aA.aO _ _ h3c,aA.aO _ _ h32] at h3;exact h3
 obtain⟨W,hW⟩:∃W:Nat→Sv→aA,W=fun q s=>((st.aC b2 (.cells [.fslice [],.int .i64 0])).aC c (fK bs q)).aC b3 (.cells [.slice (s.cs.map bV),.int .i64 s.quota]):=⟨_,rfl⟩
 have hW0:((st.aC b2 (.cells [.fslice [],.int .i64 0])).aC c (fK bs (p+1+1))).aC b3 (.cells [.slice (s.cs.map bV),.int .i64 s.quota])=W (p+1+1) s:=by rw[hW]
 have hWc:∀q s q',(W q s).aC c (fK bs q')=W q' s:=fun q s q'=>by
  rw[hW]
  funext y
  by_cases e3:y=b3<;>by_cases ec:y=c<;>simp_all [aA.aC]
 have hWs:∀q s s',(W q s).aC b3 (.cells [.slice (s'.cs.map bV),.int .i64 s'.quota])=W q s':=fun q s s'=>by
  rw[hW];exact d3 _ _ _ _
 have hWR:∀q s,fC (W q s) c bs q:=fun q s=>by
  unfold fC
  rw[hW]
  simp only
  rw[aA.aO _ _ h3c.symm,aA.aK]
  try rfl
 have hW3:∀q s,W q s b3=some (.cells [.slice (s.cs.map bV),.int .i64 s.quota]):=fun q s=>by rw[hW];exact aA.aK _ _ _
 have hW2:∀q s,W q s b2=some (.cells [.fslice [],.int .i64 0]):=fun q s=>by
  rw[hW]
  simp only
  rw[aA.aO _ _ h32.symm,aA.aO _ _ h2c,aA.aK]
 have hWd:∀q s o,aJ ((W q s).aC b2 o) (st.aC c (fK bs q)):=fun q s o y=>by
  rw[hW]
  by_cases e2:y=b2<;>by_cases ec:y=c<;>by_cases e3:y=b3<;>simp_all [aA.aC]
 simp only[aG,hW0,aB,seval]
 refine(DV [2,3,1,4] (by simp) (by simp) bs c (p+1+1) (by omega) _ (hWR _ _)).mono ?_
 rintro _ _ ⟨i0,hi0,rfl,rfl⟩
 obtain⟨i,rfl,hi⟩:∃n:Nat,i0=(n:Int)∧n≤4:=⟨i0.toNat,by simp only[cT,dF,dS] at hi0;omega,by simp only[cT,dF,dS] at hi0;omega⟩
 rw[hWc]
 clear hW hW0 hR2 h3 hn0 hqu hi0
 simp only[aB,seval]
 refine gW (σ:=Nat×Nat×Nat×Sv) [1000000,3] [0,2,3] (fun x=>2*x.1+x.2.1≤8∧p≤x.2.2.1∧x.2.2.1+1000*x.1≤p+5000∧SI x.2.1 x.2.2.2) (fun x=>[(5,.int .i64 (x.1:Int))]) (fun x=>W x.2.2.1 x.2.2.2) (fun x=>x.1) (by decide +kernel) ⟨(i,0,p+1+1+1,s),⟨by simp only;omega,by simp only;omega,by simp only;omega,hSI⟩,aP.mk (by simp only[aB,seval])⟩ ?_
 rintro⟨i,k,q,t⟩ ⟨i1,i2,i3,hSI⟩
 simp only at i1 i2 i3 hSI ⊢
 have e3:=hW3 q t
 have e2:=hW2 q t
 have aE2:∃s2,aJ ((W q t).aC b2 (.cells [.slice (t.cs.map bV),.int .i64 t.quota])) s2∧Dr bs c p 5000 st (fun r=>∃s:Sv,SI 8 s∧r=fZ s) (.agg [.slice (t.cs.map bV),.int .i64 t.quota]) s2:=⟨_,hWd _ _ _,q,i2,by omega,rfl,t,hSI.more (by omega),rfl⟩
 by_cases hi0:0<i
 case neg=>
  have hi':=bB (show ¬(0:Int)<(i:Int) by omega)
  simp only[hi',a8,aG,e3,e2,aB,seval,sM]
  exact aE2
 have hi':=bP (show(0:Int)<(i:Int) by omega)
 simp only[hi',aV,aE,e3,aB,seval,sM]
 refine bE (fun h0=>?_) (fun h0=>?_)
 case refine_2=>
  simp only[aG,e3,e2,aB,seval,sM]
  exact aE2
 simp only[bK] at h0
 obtain⟨hm1,hm2,hm3⟩:=hSI.sm (by omega)
 have hci:((i - 1:Nat):Int)=(i:Int) - 1:=by omega
 have hwi:=bH (n:=(i:Int) - 1)
 simp only[aB,seval]
 refine CL [(0,1),(1,1),(2,1),(3,1),(4,1),(6,1),(5,0),(7,0),(8,2),(9,2)] [0,1,2,3,4,6] (dW.aC b3 (.cells [.slice (t.cs.map bV),.int .i64 t.quota])) mixed (by decide +kernel) (by decide +kernel) (by decide +kernel) rfl (lP e3) ?_
 simp only[aE,aB,seval,sM]
 have hfs:=fun(j:Int) (x:List Bt) (hx:x.length≤10000) st=>aOL t j x st hm1 hm2 (by omega)
 unfold fZ at hfs
 refine(SF bs c q (by omega) t.cs.length (by have:=hSI.len;omega) _ (hWR _ _)).mono ?_
 rintro _ _ ⟨j,hj,rfl,rfl⟩
 rw[hWc]
 have e3:=hW3 (q+1) t
 have e2:=hW2 (q+1) t
 simp only[aB,seval]
 refine⟨lP e3,?_⟩
 refine(RB bs c (q+1) _ (by omega) (hWR _ _)).mono ?_
 rintro _ _ ⟨q2,r1,r2,rfl,x,hx,rfl⟩
 rw[hWc]
 have e3:=hW3 q2 t
 have e2:=hW2 q2 t
 simp only[aB,seval]
 refine⟨lP e3,?_⟩
 refine(hfs (j:Int) x hx _).to ?_
 obtain⟨hF,hFl⟩:=hSI.fed (j:=(j:Int)) (x:=x) (by omega) hx
 generalize tV t (j:Int) x=t2 at *
 have MT:=hWs q2 t t2
 simp only[aG,e3,MT,aB,seval,sM]
 clear hfs
 have e3:=hW3 q2 t2
 have e2:=hW2 q2 t2
 obtain⟨tm1,tm2,tm3⟩:=hF.sm (by omega)
 have htu:=fun n st=>aOS t2 n st tm1 tm3
 unfold fZ at htu
 refine(tP bs c q2 (by omega) 2 (by omega) (by omega) _ (hWR _ _)).mono ?_
 rintro _ _ ⟨j2,hj2,rfl,rfl⟩
 rw[hWc]
 have e3:=hW3 (q2+1) t2
 have e2:=hW2 (q2+1) t2
 simp only[aB,seval]
 refine bE (fun h0=>?_) (fun h0=>?_)
 case refine_2=>
  simp only[hwi,aB,seval]
  exact⟨(i - 1,k+2,q2+1,t2),by simp only;omega,⟨by simp only;omega,by simp only;omega,by simp only;omega,hF.more (Nat.le_succ _)⟩,aP.mk (by simp only[hci,aB,seval])⟩
 simp only[aB,seval]
 refine CL [(0,1),(1,1),(2,1),(3,0),(4,2),(5,2)] [0,1,2] (dW.aC b3 (.cells [.slice (t2.cs.map bV),.int .i64 t2.quota])) mixed (by decide +kernel) (by decide +kernel) (by decide +kernel) rfl (lP e3) ?_
 simp only[aB,seval,sM]
 refine(DV [3,10,1,50] (by simp) (by simp) bs c (q2+1) (by omega) _ (hWR _ _)).mono ?_
 rintro _ _ ⟨m,hm,rfl,rfl⟩
 rw[hWc]
 have e3:=hW3 (q2+1+1) t2
 have e2:=hW2 (q2+1+1) t2
 simp only[aB,seval]
 refine⟨lP e3,?_⟩
 refine(htu m _).to ?_
 obtain⟨hT,hTl⟩:=hF.aX9 (n:=m)
 generalize CE t2 m=t3 at *
 have MT:=hWs (q2+1+1) t2 t3
 simp only[aG,e3,hwi,MT,aB,seval,sM]
 have e3:=hW3 (q2+1+1) t3
 have e2:=hW2 (q2+1+1) t3
 exact⟨(i - 1,k+2,q2+1+1,t3),by simp only;omega,⟨by simp only;omega,by simp only;omega,by simp only;omega,hT⟩,aP.mk (by simp only[hci,aB,seval])⟩
theorem aWJ{P:Program}{φ:AF}{st:aA}{p u v:Tmp}{t:TypeId}{K:AV→aA→Prop}:lG P [.cell p t,.tmp u,.tmp v] K φ st=EU (fun r=>jY [r,φ u,φ v]=true∧K (.tup [r,φ u,φ v]) st) (fL P st t (φ p)):=by
 simp only[lG,mL,wU]
 cases fL P st t (φ p)<;>rfl
abbrev FB:=zi aX (zi f0 (zi kT (zi p7 rD)))
theorem aMG(code:List Bt)(st:aA):aD prog 46 [bT code] st (fun r st'=>(∃(s:Sv) (k:Int) (x:List Bt),(SI 8 s∧x.length≤10000)∧r=.tup [fZ s,.int .i64 k,bT x])∧st'=st):=by
 refine aD.drop ?_
 refine wF [1000000] 1 func46 ntmps46 rfl rfl ?_
 intro _
 simp only[aB,seval,FB]
 intro b2 h2
 refine(aM9 code _).mono ?_
 rintro _ _ ⟨c,bs',rfl,hn,rfl⟩
 have h2c:b2≠c:=by rintro rfl;rw[aA.aK] at hn;cases hn
 have hnc:st c=none:=by rw[aA.aO _ _ h2c.symm] at hn;exact hn
 simp only[aB,seval]
 refine(aM1 bs' c 0 _ (by omega) fC.new).mono ?_
 rintro _ _ ⟨p1,r1,r2,rfl,s,hS,rfl⟩
 rw[d3]
 unfold fZ
 simp only[aB,↓a9,seval,FB]
 refine wX [(0,1),(1,1),(2,1),(4,1),(3,0),(5,0),(6,0),(7,1),(8,1)] [0,1,2,4,7,8] dW mixed rfl cY ?_
 simp only[aB,seval,FB]
 refine(DV [0,1,0,2,-1,9] (by simp) (by simp) bs' c p1 (by omega) _ fC.new).mono ?_
 rintro _ _ ⟨k,hk,rfl,rfl⟩
 rw[d3]
 simp only[aB,seval]
 refine⟨cY,?_⟩
 refine(RB bs' c (p1+1) _ (by omega) fC.new).mono ?_
 rintro _ _ ⟨q2,g1,g2,rfl,x,hx,rfl⟩
 rw[d3]
 have e2:((st.aC b2 (.cells [.fslice [],.int .i64 0])).aC c (fK bs' q2)) b2=some (.cells [.fslice [],.int .i64 0]):=by rw[aA.aO _ _ h2c,aA.aK]
 simp only[aG,e2,aB,seval,FB]
 refine⟨cY,cY,?_⟩
 rw[aWJ]
 simp only[aB,seval,FB]
 exact⟨(((aJ.refl _).aC h2).aC hnc).aC h2,s,k,x,⟨hS,hx⟩,rfl⟩
abbrev aH1:=zi aX (zi f0 p7)
theorem aMF(code:List Bt)(st:aA):aD prog 12 [bT code] st (fun r st'=>(∃(s:Sv) (k:Int),SI 8 s∧r=.tup [fZ s,.int .i64 k])∧st'=st):=by
 refine aD.drop ?_
 refine wF [1000000] 1 func12 ntmps12 rfl rfl ?_
 intro _
 simp only[aB,seval,aH1]
 intro b2 h2
 refine(aMG code _).mono ?_
 rintro _ _ ⟨⟨s,k,x,⟨hS,hx⟩,rfl⟩,rfl⟩
 unfold fZ
 simp only[aG,aB,↓a9,seval,aH1]
 exact⟨(aJ.refl _).aC h2,s,k,hS,rfl⟩
abbrev JA:=zi aX (zi cD (zi kU lZ))
theorem SE(l:List Fr)(st:aA):aD prog 14 [bA l,bA l] st (fun r st'=>r=.bool true∧st'=st):=by
 refine wF [1000000] 2 func14 ntmps14 rfl rfl ?_
 simp only[eF,AV.fits,eN,aE]
 intro ⟨⟨hl,_⟩,_⟩
 simp only[eO,aV,aE,aB,seval,JA]
 refine d7 (σ:=Unit) [1000000] [0,1] l (fun i _=>True) (fun i _=>[(4,.bool false),(5,.int .i64 i)]) (fun _ _=>st) (by decide +kernel) ⟨(),trivial,aP.mk (by simp only[aB,↓a9,seval])⟩ (fun i x _ hx hlt bN hdr hinv=>?_) (fun _ hge hinv=>?_)
 case refine_2=>
  simp only[hge,aE,aB,seval,JA]
 have hw:=bH (n:=(i:Int)+1)
 have hat:=bR (av:=bC) (P:=prog) jQ hx (nL x)
 obtain⟨k,t⟩:=x
 simp only[bC] at hat
 have aS3:dG prog .neq 44 (.agg [.int .i64 k,.str t]) (.agg [.int .i64 k,.str t])=some (.bool false):=by
  have h:HI prog 44=true:=by kernel_rfl
  simp only[dG,h,and_self,fQ,aV,fA,Bool.and_self]
 simp only[bN,aV,aE,aB,seval,JA]
 refine KX mixed (by decide +kernel) (by decide +kernel) ?_
 simp only[hw,hat,aS3,aB,seval,JA]
 exact⟨(),aP.mk (by simp only[aB,seval])⟩
abbrev B2:=zi aX (zi cD (zi f0 (zi p7 (zi kU lZ))))
set_option maxHeartbeats 1000000 in
theorem aMI(code:List Bt)(st:aA):aD prog 4 [.slice (code.map a7)] st (fun r _=>r=.bool true):=by
 refine wF [1000000] 1 func4 ntmps4 rfl rfl ?_
 simp only[eF,AV.fits,eN,aE]
 intro _
 simp only[aE,aB,seval,B2]
 refine bE (fun h1=>?_) (fun h1=>?_)
 · simp only[aB,seval]
 simp only[aB,seval]
 refine(aMF code _).mono ?_
 rintro _ s1 ⟨⟨s,k,hS,rfl⟩,rfl⟩
 have hci:(cout s k)= []∨∃c∈s.cs,cout s k=c.out:=by
  unfold cout
  split
  · cases hx:s.cs[k.toNat]? with
    | none=>exact .inl rfl
    | some c=>exact .inr ⟨c,cQ hx,rfl⟩
  · exact .inl rfl
 have hok:EV (cout s k)∧(cout s k).length≤240:=by
  rcases hci with h | ⟨c,hc,h⟩
  · rw[h];exact⟨fun f hf=>absurd hf (dF),by simp⟩
  · rw[h];exact⟨(hS.all c hc).ok,by have:=(hS.all c hc).out;omega⟩
 have h1:=fun st=>(aU5 s k st (hS.sm (by omega)).1 (by omega)).made
 have h2:=fun st=>(aU6 s k st (by omega)).made
 unfold fZ at h1 h2 ⊢
 generalize cout s k=L at *
 obtain⟨cZ,hlen⟩:=hok
 simp only[aB,↓a9,seval,B2]
 refine(h1 _).to ?_
 simp only[aB,seval,B2]
 refine(h2 _).to ?_
 simp only[aB,seval]
 refine(SE L _).to ?_
 simp only[fA,aB,seval]
 refine d7 (σ:=Unit) [1000000] [5] L (fun i _=>True) (fun i _=>[(2,.bool false),(6,.int .i64 i)]) (fun _ _=>s1) (by decide +kernel) ⟨(),trivial,aP.mk (by simp only[aB,↓a9,seval])⟩ (fun i x _ hx hlt bN hdr hinv=>?_) (fun _ hge hinv=>?_)
 case refine_2=>
  simp only[hge,aE,aB,seval,B2]
  refine(aMP L (by omega) (fun f hf=>(cZ f hf).1) _).to ?_
  simp only[aB,seval]
  refine(aMN L (by omega) (fun f hf=>(cZ f hf).1) _).to ?_
  simp only[aB,seval]
  refine(SE L _).to ?_
  simp only[aB,seval]
 have hw:=bH (n:=(i:Int)+1)
 have hat:=bR (av:=bC) (P:=prog) jQ hx (nL x)
 obtain⟨m1,m2⟩:=cZ x (cQ hx)
 have hfv:=fun s=>LB x s
 rw[m1] at hfv
 obtain⟨kk,t⟩:=x
 simp only[bC] at hat hfv m2
 have hk:=bB (show ¬kk<4 by omega)
 simp only[bN,aV,aE,hat,aB,seval,B2]
 refine(hfv _).to ?_
 simp only[fA,a8,hw,hat,hk,aB,seval,B2]
 exact⟨(),aP.mk (by simp only[aB,seval])⟩
end Go.AW
