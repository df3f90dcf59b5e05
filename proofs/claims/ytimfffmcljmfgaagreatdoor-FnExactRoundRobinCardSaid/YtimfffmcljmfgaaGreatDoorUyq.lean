import Derived.Test.YtimfffmcljmfgaaGreatDoorUyo
import Derived.Test.YtimfffmcljmfgaaGreatDoorUyp
import Derived.Test.YtimfffmcljmfgaaGreatDoorUym
import Derived.Test.YtimfffmcljmfgaaGreatDoorUyl
import Derived.Test.YtimfffmcljmfgaaGreatDoorUyj
import Derived.Test.YtimfffmcljmfgaaGreatDoorUyg
import Derived.Test.YtimfffmcljmfgaaGreatDoorUyi
import Derived.Test.YtimfffmcljmfgaaGreatDoorUyk
set_option linter.unusedSimpArgs false
set_option linter.unusedVariables false
set_option maxRecDepth 100000
namespace Go.AW
open Go.Proofs.Tryz
def S4:Option (List Tm)→AV
 | none=>.tup [.slice [],.bool false]
 | some l=>.tup [.slice (l.map Tm.av),.bool true]
theorem aKO:∀ {l:List Tm},(∀t∈l,t.nodes≤120)→aL Tm.nodes l≤120*l.length
 | [],_=>by simp [aL]
 | t::l,h=>by
  have h1:=h t (by simp)
  have h2:=aKO (l:=l) fun x hx=>h x (by simp [hx])
  simp only[aL,a8];omega
abbrev G3:=zi tI_3 (zi zI_3 (zi a7 (zi tI_4 (zi zI_4 (zi cL (zi tI_31 (zi zI_31 (zi aR (zi bO (zi bP (zi cF (zi tI_46 (zi zI_46 (zi cW (zi eJ (zi eF (zi eY (zi tI_66 (zi zI_66 (zi b9 (zi cA (zi cB (zi cC (zi bZ (zi tI_227 zI_227)))))))))))))))))))))))))
theorem aS7{N:Nat}{σ:Sub}(hg:cJ σ)(ho:cK (bD N) σ)(vars:List Int)(hv:∀v∈vars,0≤v∧v<(N:Int))(hl:vars.length≤1000)(c m:Nat)(q:AV)(st:aA)(hS:iG st c m q σ) :
 aD prog 244 [.ptr c 0,.slice (vars.map iv)] st (fun r st'=>r=S4 (iJ σ vars)∧st'=st):=by
 obtain⟨rk,B,G⟩:=hg.rs
 have zE:=fun(t:Tm) (ht:bD N t) st hS=>WB G (ho.imp fun t ht=>ht.1.2.1) (ho.imp fun t ht=>ht.1.small) c m q t ht.1.2.1 ht.1.small st hS
 refine aD.done ?_
 refine wF [1000000] 2 func244 ntmps244 rfl rfl ?_
 intro _
 simp -implicitDefEqProofs only[aE,aB,seval,G3]
 refine qJ (σ:=Unit) [1000000] [0,11,12] vars 4 6 (fun i _=>((vars.take i).map (rs σ)).map Tm.av) (fun i _=>((vars.take i).map (rs σ)).all eK=true) (fun i _=>[(4,.fslice []),(5,.bool false),(13,.int .i64 i)]) (fun _ _=>st) (fun i _ _ e he=>by simp only[bY] at he;obtain⟨t,_,rfl⟩:=he;exact⟨Tm.eN _,aO _⟩) (by decide +kernel) ⟨(),0,rfl,fun h=>absurd rfl h,aN.mk (by simp -implicitDefEqProofs only[lJ,jJ,bQ,aB,↓aY,seval])⟩ (fun i x s b hx hlt bB hdr hinv hb=>?_) (fun s b hge hinv=>?_)
 · have hw:=bG (n:=(i:Int)+1)
   have hxm:=cG hx
   obtain⟨hx0,hx1⟩:=hv x hxm
   have hvr:bD N (vr x):=⟨GH hx0 hx1,by rw[vr,Tm.kG];simp [aL]⟩
   have hat:dM prog 46 (.slice (vars.map iv)) (.int .i64 (i:Int))=some (.pptr (.int .i64 x)):=bH (av:=iv) cW hx rfl
   have c7:(((vars.take i).map (rs σ)).map Tm.av).length=i:=by simp only[aE,dI];omega
   have dC:((vars.take (i+1)).map (rs σ)).all eK=eK (rs σ x):=by
    rw[eH,hx]
    simp only[HP,mX,bR,bQ,A0,hinv,jI,List.all_nil,AT,iY]
   have hr:=zE (vr x) hvr _ (hS.acc hb)
   rw[vN] at hr
   unfold KN at hr
   simp -implicitDefEqProofs only[bB,hat,aB,seval,G3]
   refine(N5 x _).to ?_
   simp -implicitDefEqProofs only[aB,seval]
   by_cases hf:eK (rs σ x)=true
   · rw[aH (by unfold eK at hf;simpa using hf)] at hr
     refine hr.to ?_
     simp -implicitDefEqProofs only[cE,aO,Tm.d5,Tm.eN,aB,↓aY,seval,G3]
     refine f9 aR bO bP rfl rfl (g9 (aO _) (Tm.d5 _)) (iP _) hb (by simp only[c7,a8,bL];omega) (by simp only[c7,a8,bL];omega) (fun b' hb'=>?_)
     rw[show(((vars.take i).map (rs σ)).map Tm.av)++ [(rs σ x).av]=((vars.take (i+1)).map (rs σ)).map Tm.av by rw[eH,hx];simp] at hb' ⊢
     simp -implicitDefEqProofs only[hw,aB,seval]
     exact⟨(),b',by rw[dC];exact hf,hb',aN.mk (by simp -implicitDefEqProofs only[aB,seval])⟩
   · rw[aG (by unfold eK at hf;simpa using hf)] at hr
     refine hr.to ?_
     simp -implicitDefEqProofs only[aO,Tm.d5,Tm.eN,aB,↓aY,seval,G3]
     have pV:iJ σ vars=none:=by
      unfold iJ
      rw[aG]
      rintro⟨h1,_⟩
      exact hf (eD.1 h1 _ (bY.2 ⟨x,hxm,rfl⟩))
     rw[pV]
     exact⟨rfl,aM.bV (aM.refl _) hb⟩
 · rw[dQ] at hinv
   have hok:∀t∈vars.map (rs σ),bD N t:=fun t ht=>by
    obtain⟨v,hvm,rfl⟩:=bY.1 ht
    have hf:=eD.1 hinv _ ht
    unfold eK at hf
    simp only[cT,bM] at hf
    exact⟨G.lP ho.lP v (hv v hvm).1 (hv v hvm).2,hf.2⟩
   have hsz:aL Tm.nodes (vars.map (rs σ))≤1099511627776:=by
    have:=aKO (l:=vars.map (rs σ)) fun t ht=>(hok t ht).2
    rw[aE] at this
    omega
   simp -implicitDefEqProofs only[hge,f7,vC,iL,pR,JN,nN,dQ,aB,seval]
   refine(N6 (vars.map (rs σ)) _ hsz).to ?_
   simp -implicitDefEqProofs only[aE,aE,aB,seval,G3]
   refine aT (fun h=>?_) (fun h=>?_)
   · simp -implicitDefEqProofs only[aB,seval]
     have h':¬(bX (vars.map (rs σ)) []).length≤26:=by simp at h;omega
     unfold iJ
     rw[aG (fun hh=>h' hh.2)]
     exact⟨rfl,aM.refl _⟩
   · simp -implicitDefEqProofs only[aB,seval]
     have h':(bX (vars.map (rs σ)) []).length≤26:=by simp at h;omega
     refine(aSL (vars.map (rs σ)) (by rw[aE];omega) hsz (fun t ht=>(hok t ht).1.small) _).to ?_
     simp -implicitDefEqProofs only[aB,seval]
     unfold iJ
     rw[aH ⟨hinv,h'⟩]
     exact⟨rfl,aM.refl _⟩
abbrev aMY:=zi tI_3 (zi zI_3 (zi a7 (zi tI_4 (zi zI_4 (zi cL (zi tI_26 (zi zI_26 (zi gC (zi kM (zi kN (zi mA (zi tI_29 (zi zI_29 (zi eP (zi gO (zi gP (zi gV (zi tI_31 (zi zI_31 (zi aR (zi bO (zi bP (zi cF (zi tI_174 (zi zI_174 (zi tI_256 (zi zI_256 (zi tI_260 (zi zI_260 (zi E7 (zi E8 (zi FB (zi FC (zi FD (zi FF (zi FG (zi FH (zi FI (zi FJ (zi E9 (zi FA EP)))))))))))))))))))))))))))))))))))))))))
theorem aSH(p:List Cl)(q:List Tm)(fuel:Int)(idx:Bool)(hq:q.length≤1048576)(st:aA) :
 aD prog 162 [.slice (p.map bK),.slice (q.map Tm.av),.int .i64 fuel,.bool idx] st (fun r st'=>∃S c m,r=.ptr S 0∧dA st st' S c m (.fslice []) (.fslice []) (.fslice []) p q idx fuel 0 0 [] (nR q)):=by
 have zD:=fun st=>NZ q 0 (-1) [] hq st
 simp only[fA] at zD
 rw[d7] at zD
 refine wF [1000000,16] 4 func162 ntmps162 rfl rfl ?_
 intro _
 simp -implicitDefEqProofs only[aB,seval]
 refine(aSI st).mono ?_
 rintro _ s1 ⟨c,m,rfl,hS,hQ,hc,hm⟩
 simp -implicitDefEqProofs only[aB,seval,aMY]
 intro S hS0
 have hSc:S≠c:=by rintro rfl;rw[hS.sub.cells] at hS0;cases hS0
 have hSm:S≠m:=by rintro rfl;rw[hS.sub.map] at hS0;cases hS0
 refine(zD _).to ?_
 obtain⟨l1,l2,l3,l4,l5,l6⟩:=oM (q.map (fun t=>(⟨t,0,-1⟩:IG)))
 simp -implicitDefEqProofs only[aP,aA.aJ,l4,l5,aB,seval,aMY]
 refine⟨S,c,m,rfl,?_⟩
 have hcm:c≠m:=by rintro rfl;have:=hS.sub.cells;rw[hS.sub.map] at this;cases this
 have aH4:st S=none:=by
  cases hh:st S with
  | none=>rfl
  | some o=>have:=hQ.frame S o hh hSc hSm (by simp [dE]);rw[hS0] at this;cases this
 refine⟨aA.aJ _ _ _,hS.aC hSc hSm (by simp [dE]),.inl ⟨rfl,rfl⟩,.inl ⟨rfl,rfl⟩,rfl,by simp,?_,?_,?_⟩
 · simp [iN,dE,aS,hSc,hSm,hcm]
 · intro b hb
   rcases dY.1 hb with rfl | rfl | rfl | hb | hb | hb
   · exact aH4
   · exact hc
   · exact hm
   · simp [dE] at hb
   · simp [aS] at hb
   · simp [aS] at hb
 · intro b o hb
   have e1:b≠S:=by rintro rfl;rw[aH4] at hb;cases hb
   rw[aA.aF _ _ e1]
   exact hQ.frame b o hb (by rintro rfl;rw[hc] at hb;cases hb) (by rintro rfl;rw[hm] at hb;cases hb) (by simp [dE])
theorem aQL(p:List Cl)(q:List Tm)(most fuel:Int)(st:aA) :
 aD prog 153 [.slice (p.map bK),.slice (q.map Tm.av),.int .i64 most,.int .i64 fuel] st (fun r st'=>r=.bool (nV p&&(mM q&&(decide (0≤most)&&(decide (most≤20)&&(decide (0≤fuel)&&decide (fuel≤300))))))∧st'=st):=by
 have h1:=fun st=>VH p st
 have h2:=fun st=>VI q st
 have h3:=fun n lo hi st=>yS n lo hi st
 refine wF [] 4 func153 ntmps153 rfl rfl ?_
 intro _
 simp -implicitDefEqProofs only[aB,seval]
 refine(h1 _).to ?_
 simp -implicitDefEqProofs only[aB,seval]
 refine cU (fun h=>?_) (fun h=>?_)
 · simp -implicitDefEqProofs only[h,aB,seval]
   refine(h2 _).to ?_
   simp -implicitDefEqProofs only[aB,seval]
   refine cU (fun h5=>?_) (fun h5=>?_)
   · simp -implicitDefEqProofs only[h5,aB,seval]
     refine(h3 _ _ _ _).to ?_
     simp -implicitDefEqProofs only[aB,seval]
     refine cU (fun h6=>?_) (fun h6=>?_)
     · simp -implicitDefEqProofs only[h6,aB,seval]
       refine(h3 _ _ _ _).to ?_
       simp -implicitDefEqProofs only[aB,seval]
       rw[←Bool.and_assoc (decide (0≤most)),h6,iY]
     · simp -implicitDefEqProofs only[h6,aB,seval]
       rw[←Bool.and_assoc (decide (0≤most)),h6]
       try rfl
   · simp -implicitDefEqProofs only[h5,aB,seval]
     rw[mB]
 · simp -implicitDefEqProofs only[h,aB,seval]
   rw[mB]
theorem aSR(st:aA):aD prog 164 [] st (fun r st'=>r=.tup []∧st'=st):=by
 refine wF [1000000] 0 func164 ntmps164 rfl rfl ?_
 intro _
 simp -implicitDefEqProofs only[aB,seval,]
structure MV where
 st:aA
 qt:AV
 qc:AV
 qn:AV
 mx:Int
 nd:List AV
 s:RS
 i:IS
 out:List (List Tm)
 b:Nat
 u:Nat
 B:Nat
 M:Nat
 e:Int
structure aN5 (st0:aA) (S c m:Nat) (p:List Cl) (q:List Tm) (idx:Bool) (cnd:Tm→List Nat→List Nat) (vars:List Int) (most fuel:Nat) (T:List (List Tm)×Int) (x:MV):Prop where
 a:dA st0 x.st S c m x.qt x.qc x.qn p q idx fuel x.u x.mx x.nd x.i
 r:RI p x.B x.M x.u x.s x.i
 t:T=(x.out++(iT p cnd vars (most - x.out.length) (fuel - x.u) x.i).1,(iT p cnd vars (most - x.out.length) (fuel - x.u) x.i).2)
 u:x.u≤fuel
 B:x.B≤26+26*x.u
 M:x.M≤26+520*x.u
structure TO (st0:aA) (S c m:Nat) (p:List Cl) (q:List Tm) (idx:Bool) (cnd:Tm→List Nat→List Nat) (vars:List Int) (most fuel:Nat) (T:List (List Tm)×Int) (x:MV):Prop where
 d:aM x.st st0
 b:x.out.map bJ≠[]→x.st x.b=none
 l:x.out.length≤most
 g:x.e= -1→aN5 st0 S c m p q idx cnd vars most fuel T x
 f:x.e≠-1→T=(x.out,x.e)
abbrev LJ:=zi tI_3 (zi zI_3 (zi a7 (zi tI_4 (zi zI_4 (zi cL (zi tI_26 (zi zI_26 (zi gC (zi kM (zi kN (zi mA (zi tI_31 (zi zI_31 (zi aR (zi bO (zi bP (zi cF (zi tI_46 (zi zI_46 (zi cW (zi eJ (zi eF (zi eY (zi tI_59 (zi zI_59 (zi tT (zi tK (zi tI_174 (zi zI_174 (zi tI_227 (zi zI_227 (zi tI_256 (zi zI_256 (zi tI_260 (zi zI_260 (zi E7 (zi E8 (zi FB (zi FC (zi FD (zi FF (zi FG (zi FH (zi FI (zi FJ (zi E9 (zi FA EP)))))))))))))))))))))))))))))))))))))))))))))))
set_option maxHeartbeats 2000000 in
theorem aSO{p:List Cl}(hp:∀c∈p,fQ c∧c.2.length≤6)(hpl:p.length≤20){cnd:Tm→List Nat→List Nat}(hc:∀(ρ:Int→Int) (t:Tm) (l:List Nat),cnd (bT ρ t) l=cnd t l)(hd:∀t l,(∀i∈cnd t l,i∈l)∧(cnd t l).length≤l.length){idx:Bool}(xD:MN p idx cnd)
 {q:List Tm} (hq:∀t∈q,bD 26 t∧t.k=3) (h6:q.length≤6) {most fuel:Nat} (hm:most≤20) (hf:fuel≤300) {st0 st:aA} {S c m:Nat} (xF:idx=true→st0 sX=some vS) (h:dA st0 st S c m (.fslice []) (.fslice []) (.fslice []) p q idx fuel 0 0 [] (nR q)) :
 aD prog 163 [.ptr S 0,.int .i64 (most:Int),.func 164 []] st (fun r st'=>∃b s,r=.tup [bS 1 b ((iT p cnd (bX q []) most fuel (nR q)).1.map bJ),.int .i64 (iT p cnd (bX q []) most fuel (nR q)).2]∧st'=bV s b ((iT p cnd (bX q []) most fuel (nR q)).1.map bJ)∧((iT p cnd (bX q []) most fuel (nR q)).1.map bJ≠[]→s b=none)∧aM s st0):=by
 have hnd:aL Tm.nodes q≤1099511627776:=by
  have:=CV q fun t ht=>(hq t ht).1.2
  omega
 have hva:=fun st=>N6 q st hnd
 have hv:∀v∈bX q [],0≤v∧v<26:=fun v hv=>by
  rcases (xV q [] fun t ht=>(hq t ht).1.1.2.1).1 hv with h | ⟨t,ht,h⟩
  · cases h
  · exact(hq t ht).1.1.2.2 v h
 have hvl:(bX q []).length≤1000:=by
  have h1:=xU q []
  have h2:=CV q fun t ht=>(hq t ht).1.2
  simp only[bL] at h1
  omega
 have J9:=RI.start (p:=p) hq h6
 generalize hT:iT p cnd (bX q []) most fuel (nR q)=T
 generalize bX q []=vars at *
 have hI0:TO st0 S c m p q idx cnd vars most fuel T ⟨st,.fslice [],.fslice [],.fslice [],0,[],lR q,nR q,[],0,0,26,26,-1⟩:=
  ⟨h.sM,by simp,nI _,fun _=>⟨h,J9,by rw[←hT];try rfl,nI _,cO _,cO _⟩,fun h=>absurd rfl h⟩
 have PC:=h.cell
 simp only[gS] at PC
 obtain⟨l1,l2,l3,l4,l5,l6⟩:=oM (nR q).goals
 refine wF [1000000] 3 func163 ntmps163 rfl rfl ?_
 intro _
 simp -implicitDefEqProofs only[PC,aB,seval,LJ]
 refine(hva _).to ?_
 simp -implicitDefEqProofs only[aB,seval]
 clear PC l1 l2 l3 l4 l5 l6
 have hne:∀l:List IG,dU prog .neq 256 (d7 l) .nilptr=some (.bool (!l.isEmpty)):=fun l=>by
  have h:prog.underlying 256=some (.pointer 321):=by kernel_rfl
  cases l with
  | nil=>rw[d7];simp only[dU,h];rfl
  | cons g l=>obtain⟨⟨k,n,s,ts⟩,cut,up⟩:=g;rw[sO];simp only[dU,h];rfl
 refine pC (σ:=MV) [1000000] [0,1,2,8] (fun x=>TO st0 S c m p q idx cnd vars most fuel T x)
  (fun x=>[(6,.fslice []),(7,.int .i64 0),(9,bS 1 x.b (x.out.map bJ)),(10,.int .i64 x.e)])
  (fun x=>bV x.st x.b (x.out.map bJ))
  (fun x=>(most - x.out.length)+(fuel - x.u)+(if x.e= -1 then 1 else 0)) (by decide +kernel) ⟨_,hI0,aN.mk (by simp -implicitDefEqProofs only[lJ,bQ,aB,seval])⟩ ?_
 clear hI0 h hT J9
 rintro⟨st,qt,qc,qn,mx,nd,s,i,out,b,u,B,M,e⟩ ⟨hdr,hb,hlen,hgo,gD⟩
 simp only at hdr hb hlen hgo gD
 simp only
 simp -implicitDefEqProofs only[aB,seval]
 refine aT (fun h=>?_) (fun h=>?_)
 case refine_2=>
  have h':e≠-1:=by simpa using h
  have hTe:=gD h'
  subst hTe
  simp -implicitDefEqProofs only[sF,aB,seval]
  exact⟨b,st,rfl,rfl,hb,hdr⟩
 obtain rfl:e= -1:=by simpa using h
 obtain⟨ha,hR,ht,hu,hBB,hMM⟩:=hgo rfl
 simp only at ha hR ht hu hBB hMM
 have hb0:out.map bJ≠[]→st0 b=none:=fun h=>(hdr b).1 (hb h)
 have hA:=ha.acc hb
 have aXE:idx=true→bV st0 b (out.map bJ) sX=some vS:=fun hi=>by
  by_cases hl:out.map bJ= []
  · rw[hl];exact xF hi
  · rw[oE (by rintro rfl;have:=hb0 hl;rw[xF hi] at this;cases this)];exact xF hi
 have hlo:(out.map bJ).length=out.length:=aE _
 have hun:prog.underlying 26=some (.slice 59):=by kernel_rfl
 have tZ:=BN (w:=1) (b:=b) (l:=out.map bJ) hun
 rw[hlo] at tZ
 have KA:∀l:List (List Tm),∀e∈l.map bJ,e.width=1:=fun l e he=>by simp only[bY] at he;obtain⟨t,_,rfl⟩:=he;rfl
 have gM:=hA.cell
 simp only[gS] at gM
 obtain⟨l1,l2,l3,l4,l5,l6⟩:=oM i.goals
 have p5:=hne i.goals
 simp -implicitDefEqProofs only[aB,seval]
 refine(aSR _).to ?_
 simp -implicitDefEqProofs only[gM,l1,p5,aB,seval,LJ]
 cases hg:i.goals with
 | cons g rest=>
  rw[hg] at p5
  simp only[List.isEmpty_cons,uI] at p5
  refine aT (fun h2=>?_) (fun h2=>absurd h2 (by first | rw[hg];simp | simp))
  simp -implicitDefEqProofs only[aB,seval]
  rw[aXY hg] at ht
  have vJ:=aSY hp hpl hc hd xD (B:=B) (M:=M) (k:=u) (by omega) (by omega) (by omega) aXE hA hR hg (by omega) (by omega)
  have hRs:=hR.step hp hpl hc hd (by omega) hg
  have hse:=aX2 (p:=p) (cnd:=cnd) (i:=i) (g:=g) (rest:=rest)
  refine vJ.mono ?_
  clear vJ
  rintro r s2 hr
  split at hr
  · rename_i hfu
    obtain⟨rfl,hA2⟩:=hr
    obtain⟨s3,rfl,hb3,hA3⟩:=hA2.AK hb0
    rw[aH (by omega)] at ht
    simp -implicitDefEqProofs only[aB,seval]
    exact⟨⟨s3,qt,qc,qn,mx,nd,s,i,out,b,u,B,M,2⟩,by simp,⟨hA3.sM,hb3,hlen,fun h=>absurd h (by simp),fun _=>by rw[ht];simp⟩,aN.mk (by simp -implicitDefEqProofs only[aB,seval])⟩
  · rename_i hfu
    have a6A:u<fuel:=by omega
    rw[aG (by omega)] at ht
    cases hS:lL p cnd i g rest with
    | stop e=>
     rw[hS] at hr ht hse
     simp only[TP] at hse
     simp only at ht
     obtain⟨rfl,qt2,qc2,qn2,mx2,nd2,i2,hA2⟩:=hr
     obtain⟨s3,rfl,hb3,hA3⟩:=hA2.AK hb0
     simp -implicitDefEqProofs only[aB,seval]
     exact⟨⟨s3,qt,qc,qn,mx,nd,s,i,out,b,u,B,M,e⟩,by simp [hse],⟨hA3.sM,hb3,hlen,fun h=>absurd h hse,fun _=>by rw[ht];simp⟩,aN.mk (by simp -implicitDefEqProofs only[aB,seval])⟩
    | go i'=>
     rw[hS] at hr ht hRs
     simp only at ht hRs
     obtain⟨s',hR'⟩:=hRs
     obtain⟨rfl,qt2,qc2,qn2,mx2,nd2,hA2⟩:=hr
     obtain⟨s3,rfl,hb3,hA3⟩:=hA2.AK hb0
     simp -implicitDefEqProofs only[aB,seval]
     exact⟨⟨s3,qt2,qc2,qn2,mx2,nd2,s',i',out,b,u+1,B+26,M+520,-1⟩,by simp;omega,⟨hA3.sM,hb3,hlen,fun _=>⟨hA3,hR',by rw[ht,Nat.sub_sub],by simp only;omega,by simp only;omega,by simp only;omega⟩,fun h=>absurd rfl h⟩,aN.mk (by simp -implicitDefEqProofs only[aB,seval])⟩
    | fail i'=>
     rw[hS] at hr ht hRs
     simp only[D8] at ht hRs hr
     obtain⟨_,_,_,hRb⟩:=hRs
     cases hbk:gE p i'.chs.length i' with
     | none=>
      rw[hbk] at hr ht
      simp only at ht
      obtain⟨rfl,qt2,qc2,qn2,mx2,nd2,i2,hA2⟩:=hr
      obtain⟨s3,rfl,hb3,hA3⟩:=hA2.AK hb0
      simp -implicitDefEqProofs only[aB,seval]
      exact⟨⟨s3,qt,qc,qn,mx,nd,s,i,out,b,u,B,M,0⟩,by simp,⟨hA3.sM,hb3,hlen,fun h=>absurd h (by simp),fun _=>by rw[ht];simp⟩,aN.mk (by simp -implicitDefEqProofs only[aB,seval])⟩
     | some i2=>
      rw[hbk] at hr ht
      simp only at ht
      obtain⟨s',hR'⟩:=hRb i2 hbk
      obtain⟨rfl,qt2,qc2,qn2,mx2,nd2,hA2⟩:=hr
      obtain⟨s3,rfl,hb3,hA3⟩:=hA2.AK hb0
      simp -implicitDefEqProofs only[aB,seval]
      exact⟨⟨s3,qt2,qc2,qn2,mx2,nd2,s',i2,out,b,u+1,B+26,M+520,-1⟩,by simp;omega,⟨hA3.sM,hb3,hlen,fun _=>⟨hA3,hR',by rw[ht,Nat.sub_sub],by simp only;omega,by simp only;omega,by simp only;omega⟩,fun h=>absurd rfl h⟩,aN.mk (by simp -implicitDefEqProofs only[aB,seval])⟩
 | nil=>
  rw[hg] at p5
  simp only[List.isEmpty_nil,mC] at p5
  refine aT (fun h2=>absurd h2 (by first | rw[hg];simp | simp)) (fun h2=>?_)
  simp -implicitDefEqProofs only[tZ,aB,seval]
  rw[aXZ hg] at ht
  refine aT (fun h2=>?_) (fun h2=>?_)
  · have h':out.length=most:=by simp at h2;omega
    rw[aH (by omega)] at ht
    simp -implicitDefEqProofs only[sF,aB,seval]
    have hTe:T=(out,1):=by rw[ht];simp
    subst hTe
    exact⟨b,st,rfl,rfl,hb,hdr⟩
  have h':out.length<most:=by simp at h2;omega
  rw[aG (by omega)] at ht
  simp -implicitDefEqProofs only[gM,hg,aB,seval,LJ]
  obtain⟨hgd,ho,_,_⟩:=hR.r.facts
  have hfr:26≤i.fresh:=by
   obtain⟨ρ,S',_⟩:=hR.r
   have h1:=S'.rng 25 (by omega) (by have:=S'.h26;omega)
   rw[S'.idn 25 (by omega) (by omega)] at h1
   omega
  refine(aS7 (N:=i.fresh) hgd ho vars (fun v h=>⟨(hv v h).1,by have:=(hv v h).2;omega⟩) hvl c m qt _ hA.sto.sub).to ?_
  cases pV:iJ i.σ vars with
  | none=>
   rw[pV] at ht
   simp only[S4]
   simp only at ht
   simp -implicitDefEqProofs only[sF,aB,seval]
   have hTe:T=(out,3):=by rw[ht];simp
   subst hTe
   exact⟨b,st,rfl,rfl,hb,hdr⟩
  | some a=>
   rw[pV] at ht
   simp only[S4]
   simp only at ht
   simp -implicitDefEqProofs only[aB,seval,LJ]
   refine f9 (P:=prog) (b:=b) (l:=out.map bJ) (xs:=[bJ a]) gC kM kN rfl rfl (g9 rfl rfl) (KA out) hb (by simp only[a8,bL,hlo];omega) (by simp only[a8,bL,hlo];omega) (fun b' hb'=>?_)
   rw[show(out.map bJ)++ [bJ a]=(out++ [a]).map bJ by simp] at hb' ⊢
   have hA':=ha.acc hb'
   have aIB:(out++ [a]).map bJ≠[]→st0 b'=none:=fun h=>(hdr b').1 (hb' h)
   have aVZ:=hA'.cell
   simp only[gS] at aVZ
   simp -implicitDefEqProofs only[aB,seval]
   have hbk:=IF hp (M:=M) (by omega) _ qt qc qn mx nd i s.chs (st0:=bV st0 b' ((out++ [a]).map bJ)) (S:=S) (c:=c) (m:=m) (q:=q) (idx:=idx) (fuel:=fuel) (used:=u) (T:=gE p i.chs.length i) ⟨hA',hR.cr,hR.x,rfl,by have:=hR.oI;have:=hR.n;constructor<;>omega⟩
   refine hbk.mono ?_
   rintro r s2 hr
   have hln:(out++ [a]).length=out.length+1:=by simp
   cases hbk:gE p i.chs.length i with
   | none=>
    rw[hbk] at hr ht
    simp only at ht
    obtain⟨rfl,qt2,qc2,qn2,mx2,nd2,i2,hA2⟩:=hr
    obtain⟨s3,rfl,hb3,hA3⟩:=hA2.AK aIB
    simp -implicitDefEqProofs only[aB,seval]
    exact⟨⟨s3,qt,qc,qn,mx,nd,s,i,out++ [a],b',u,B,M,0⟩,by simp only[hln];simp;omega,⟨hA3.sM,hb3,by simp only[hln];omega,fun h=>absurd h (by simp),fun _=>by rw[ht]⟩,aN.mk (by simp -implicitDefEqProofs only[aB,seval])⟩
   | some i2=>
    rw[hbk] at hr ht
    simp only at ht
    obtain⟨s',hR'⟩:=hR.back hp (by omega) hbk
    obtain⟨rfl,qt2,qc2,qn2,mx2,nd2,hA2⟩:=hr
    obtain⟨s3,rfl,hb3,hA3⟩:=hA2.AK aIB
    simp -implicitDefEqProofs only[aB,seval]
    exact⟨⟨s3,qt2,qc2,qn2,mx2,nd2,s',i2,out++ [a],b',u,B,M,-1⟩,by simp [hln];omega,⟨hA3.sM,hb3,by simp only[hln];omega,fun _=>⟨hA3,hR',by rw[ht];simp only[hln,kK,gH,eU,Nat.sub_sub],hu,hBB,hMM⟩,fun h=>absurd rfl h⟩,aN.mk (by simp -implicitDefEqProofs only[aB,seval])⟩
theorem qN.aZX{st st':aA}{a o:AV}{k:IntKind}{n:Int}(h:Made st a o st'):qN st [a,.int k n] (.tup [o,.int k n]) st':=by
 obtain⟨bs,h1,h2,h3,h4⟩:=h
 exact⟨_,bs,rfl,h1,h2,aZ4.2 ⟨o,.int k n,bs,[],rfl,by simp,h3,⟨rfl,rfl⟩⟩,h4⟩
def MU(st:aA)(L:List AV)(e:Int)(r:AV)(st':aA):Prop:=∃o,r=.tup [o,.int .i64 e]∧Made st (.slice L) o st'∧(L= []→o=.fslice [])
structure tF (st:aA) (L:List AV) (b i:Nat) (os:List AV) (bs:List Nat) (s:aA):Prop where
 len:os.length=i
 own:aW s (L.take i) os bs
 nd:bs.Nodup
 new:∀q∈bs,st q=none
 bn:L≠[]→b∉bs
 cell:L≠[]→s b=some (.cells (os.flatMap AV.cells++(L.drop i).flatMap AV.cells))
 aU:∀q,q∉bs→(L≠[]→q≠b)→s q=st q
theorem tF.start{st:aA}{L:List AV}{b:Nat}:tF st L b 0 [] [] (bV st b L):=by
 refine⟨rfl,by simp [aW],lS,by simp,by simp,fun h=>?_,fun q _ h=>?_⟩
 · rw[j4 h,aA.aJ];try rfl
 · cases L with
   | nil=>rfl
   | cons x l=>exact oE (h (by simp))
theorem tF.done{st s:aA}{L os:List AV}{b w:Nat}{bs:List Nat}(h:tF st L b L.length os bs s)(hb:L≠[]→st b=none)(hw:∀e∈L,e.width=w):Made st (.slice L) (bS w b L) s:=by
 obtain⟨h1,h2,h3,h4,h5,h6,h7⟩:=h
 rw[dQ] at h2
 by_cases hL:L= []
 · subst hL
   simp only[aW] at h2
   obtain⟨rfl,rfl⟩:=h2
   exact⟨[],lS,by simp,.inl ⟨rfl,rfl,rfl⟩,fun q hq=>h7 q hq (fun h=>absurd rfl h)⟩
 · refine⟨b::bs,yF.2 ⟨h5 hL,h3⟩,fun q hq=>?_,?_,fun q hq=>?_⟩
   · rcases cQ.1 hq with rfl | hq
     · exact hb hL
     · exact h4 q hq
   · rw[oF hL]
     refine .inr ⟨b,bs,os,w,rfl,rfl,?_,h2,hw⟩
     have:=h6 hL
     rw[gT] at this
     simpa using this
   · simp only[cQ,kH] at hq
     exact h7 q hq.2 fun _=>hq.1
theorem tF.step{st s s2:aA}{L os B:List AV}{b i:Nat}{bs bx:List Nat}{e r:AV}(h:tF st L b i os bs s)(he:L[i]?=some (.agg [e]))(hB:(L.drop (i+1)).flatMap AV.cells=B)(m1:bx.Nodup)(m2:∀q∈bx,s q=none)(m3:aV s2 e r bx)(m4:∀q,q∉bx→s2 q=s q) :
 tF st L b (i+1) (os++ [.agg [r]]) (bs++bx) (s2.aC b (.cells (os.flatMap AV.cells++ [r]++B))):=by
 obtain⟨h1,h2,h3,h4,h5,h6,h7⟩:=h
 have hi:i<L.length:=(eE.1 he).1
 have hL:L≠[]:=by rintro rfl;simp at hi
 have xG:=aW.fZ _ _ _ h2
 have zG:∀q∈bs,s q≠none:=fun q hq=>by obtain⟨cs,e1,_⟩:=xG.2 q hq;rw[e1];simp
 have hsb:=h6 hL
 have hbx:b∉bx:=fun hq=>by have:=m2 b hq;rw[hsb] at this;cases this
 have nA:∀q∈bs,q∉bx:=fun q hq hq'=>zG q hq (m2 q hq')
 have hbs:∀q∈bs,(s2.aC b (.cells (os.flatMap AV.cells++ [r]++B))) q=s q:=fun q hq=>by
  rw[aA.aF _ _ (by rintro rfl;exact h5 hL hq),m4 q (nA q hq)]
 refine⟨by simp [h1],?_,jW.2 ⟨h3,m1,fun a ha c hc e=>nA a ha (e▸hc)⟩,fun q hq=>?_,fun _ hq=>?_,fun _=>?_,fun q hq hne=>?_⟩
 · rw[eH,he,HP]
   refine h2.snoc hbs ?_
   refine KO.2 ⟨r,rfl,aV.aU _ _ _ (fun x hx=>?_) m3⟩
   exact aA.aF _ _ (by rintro rfl;exact hbx hx)
 · rcases dS.1 hq with hq | hq
   · exact h4 q hq
   · have h8:q∉bs:=fun h=>nA q h hq
     have h9:q≠b:=by rintro rfl;exact hbx hq
     rw[←h7 q h8 fun _=>h9]
     exact m2 q hq
 · rcases dS.1 hq with hq | hq
   · exact h5 hL hq
   · exact hbx hq
 · rw[aA.aJ,hB]
   simp [AV.cells]
 · simp only[dS,kH] at hq
   rw[aA.aF _ _ (hne hL),m4 q hq.2,h7 q hq.1 hne]
abbrev aM0:=zi tI_3 (zi zI_3 (zi a7 (zi tI_4 (zi zI_4 (zi cL (zi tI_26 (zi zI_26 (zi gC (zi kM (zi kN (zi mA (zi tI_29 (zi zI_29 (zi eP (zi gO (zi gP (zi gV (zi tI_31 (zi zI_31 (zi aR (zi bO (zi bP (zi cF (zi tI_59 (zi zI_59 (zi tT (zi tK (zi tI_174 zI_174))))))))))))))))))))))))))))
set_option maxHeartbeats 2000000 in
theorem aRF(p:List Cl){cnd:Tm→List Nat→List Nat}(hc:∀(ρ:Int→Int) (t:Tm) (l:List Nat),cnd (bT ρ t) l=cnd t l)(hd:∀t l,(∀i∈cnd t l,i∈l)∧(cnd t l).length≤l.length){idx:Bool}(xD:MN p idx cnd)
 (q:List Tm) (most fuel:Int) (st:aA) (xF:idx=true→st sX=some vS) :
 aD prog 75 [.slice (p.map bK),.slice (q.map Tm.av),.int .i64 most,.int .i64 fuel,.bool idx] st (MU st ((gG p cnd q most fuel).1.map bJ) (gG p cnd q most fuel).2):=by
 have aII:=aQL p q most fuel
 have FP:=aLQ p hd q most fuel
 refine wF [1000000] 5 func75 ntmps75 rfl rfl ?_
 intro _
 simp -implicitDefEqProofs only[aB,seval]
 refine(aII _).to ?_
 simp -implicitDefEqProofs only[aB,seval]
 refine aT (fun h=>?_) (fun h=>?_)
 · have hS:gG p cnd q most fuel=([],9):=by
    unfold gG
    rw[aG (by rw[show kI p q most fuel=false from by unfold kI;simpa only[gW] using h];simp)]
   rw[hS]
   simp -implicitDefEqProofs only[aB,seval]
   exact⟨_,rfl,⟨[],lS,by simp,.inl ⟨rfl,rfl,rfl⟩,fun _ _=>rfl⟩,fun _=>rfl⟩
 have hok:kI p q most fuel=true:=by unfold kI;simpa using h
 have hk:=hok
 simp only[kI,cT,bM] at hk
 obtain⟨kp,kq,k1,k2,k3,k4⟩:=hk
 obtain⟨p1,p2⟩:=QV kp
 obtain⟨q1,q2⟩:=QX kq
 have hTT:gG p cnd q most fuel=iT p cnd (bX q []) most.toNat fuel.toNat (nR q):=by
  unfold gG
  rw[aH hok,a1Y (fun c h=>(p2 c h).1) hc q2]
 rw[hTT] at FP ⊢
 clear hTT aII hok h
 obtain⟨mo,rfl⟩:=AZ k1
 obtain⟨fu,rfl⟩:=AZ k3
 rw[jV,jV] at FP ⊢
 simp -implicitDefEqProofs only[aB,seval]
 refine(aSH p q (fu:Int) idx (by omega) st).mono ?_
 rintro _ s1 ⟨S,c,m,rfl,hA⟩
 simp -implicitDefEqProofs only[aB,seval]
 refine(aSO p2 p1 hc hd xD q2 q1 (most:=mo) (fuel:=fu) (by omega) (by omega) xF hA).mono ?_
 generalize iT p cnd (bX q []) mo fu (nR q)=T at FP ⊢
 rintro _ _ ⟨b,s2,rfl,rfl,hb,hD⟩
 obtain⟨L,e⟩:=T
 simp only at FP hb ⊢
 have hb':L.map bJ≠[]→st b=none:=fun h=>(hD b).1 (hb h)
 have hun:prog.underlying 26=some (.slice 59):=by kernel_rfl
 have tZ:=BN (w:=1) (b:=b) (l:=L.map bJ) hun
 rw[aE] at tZ
 have hwd:∀e∈L.map bJ,e.width=1:=fun e he=>by simp only[bY] at he;obtain⟨t,_,rfl⟩:=he;rfl
 simp -implicitDefEqProofs only[tZ,aB,seval]
 refine dL (σ:=List AV×List Nat×aA) [1000000] [10,11,12,13,32,33] L (fun j x=>tF st (L.map bJ) b j x.1 x.2.1 x.2.2) (fun j x=>[(34,.int .i64 j)]) (fun j x=>x.2.2) (by decide +kernel) ⟨([],[],bV st b (L.map bJ)),tF.start,aN.drop (aT0 hD) (by simp -implicitDefEqProofs only[aB,↓aY,seval])⟩ (fun j a x hx hlt bB hdr hinv=>?_) (fun x hge hinv=>?_)
 case refine_2=>
  simp -implicitDefEqProofs only[hge,sF,aB,seval]
  have aWQ:tF st (L.map bJ) b (L.map bJ).length x.1 x.2.1 x.2.2:=by rw[aE];exact hinv
  exact⟨_,rfl,aWQ.done hb' hwd,fun h=>by rw[h];try rfl⟩
 obtain⟨os,bs,s⟩:=x
 simp only at hinv
 have hw:=bG (n:=(j:Int)+1)
 have hne:L.map bJ≠[]:=by intro h;have:=gI List.length h;simp at this;subst this;simp at hlt
 have lZ:(L.map bJ)[j]?=some (.agg [.slice (a.map Tm.av)]):=by rw[kS,hx];try rfl
 have hc2:=hinv.cell hne
 have aWC:((L.map bJ).drop j).flatMap AV.cells= [.slice (a.map Tm.av)]++((L.map bJ).drop (j+1)).flatMap AV.cells:=by
  rw[←yE,hdr,bR,pF,yE];try rfl
 rw[aWC,←kK] at hc2
 have hA2:(os.flatMap AV.cells).length=j*1:=by
  rw[hinv.own.JQ (fun q hq=>hwd q (pG hq)),dI,aE,jX (by omega)]
 obtain⟨e1,e2,e3,e4,e5,e6⟩:=xK (B:=((L.map bJ).drop (j+1)).flatMap AV.cells) hA2
 have hat:=kE (P:=prog) (b:=b) (w:=1) (i:=j) gC (len:=(L.map bJ).length) (by rw[aE];omega)
 have htk:List.take 1 (List.drop (j*1) (os.flatMap AV.cells++ [.slice (a.map Tm.av)]++((L.map bJ).drop (j+1)).flatMap AV.cells))= [.slice (a.map Tm.av)]:=by
  rw[kK,List.drop_append,List.drop_of_length_le (by omega),hA2]
  simp
 obtain⟨hal,hav⟩:=FP.2 a (cG hx)
 rw[oF hne] at tZ ⊢
 rw[aE] at hat tZ ⊢
 simp -implicitDefEqProofs only[bB,hat,hc2,htk,e5,aB,↓aY,seval,aM0]
 refine(aKE a _ (by omega) fun x hx s=>aKD x s (Tm.MH (eD.1 hav x hx))).mono ?_
 rintro r s3 ⟨bx,m1,m2,m3,m4⟩
 have hbx:b∉bx:=fun h=>by have:=m2 b h;rw[hc2] at this;cases this
 have f1:=(m4 b hbx).trans hc2
 obtain⟨hqc,hqs,hqa,hqw,hqj⟩:=aV.oY m3
 simp -implicitDefEqProofs only[hat,f1,hqc,hqs,e4,e5,oA,wG,aB,seval,aM0]
 exact⟨(os++ [.agg [r]],bs++bx,s3.aC b (.cells (os.flatMap AV.cells++ [r]++((L.map bJ).drop (j+1)).flatMap AV.cells))),hinv.step lZ rfl m1 m2 m3 m4,aN.mk (by simp -implicitDefEqProofs only[hw,aB,seval])⟩
theorem aRE(p:List Cl)(q:List Tm)(most fuel:Int)(st:aA) :
 aD prog 29 [.slice (p.map bK),.slice (q.map Tm.av),.int .i64 most,.int .i64 fuel] st (MU st ((gG p (fun _ l=>l) q most fuel).1.map bJ) (gG p (fun _ l=>l) q most fuel).2):=by
 refine wF [1000000] 4 func29 ntmps29 rfl rfl ?_
 intro _
 simp -implicitDefEqProofs only[aB,seval]
 refine(aRF p (cnd:=fun _ l=>l) (fun _ _ _=>rfl) (fun _ l=>⟨fun _ h=>h,cO _⟩) (idx:=false) rfl q most fuel st (fun h=>by cases h)).mono ?_
 intro r s1 h
 obtain⟨o,rfl,hM,hN⟩:=h
 obtain⟨hqc,hqs,hqa,hqw,hqj⟩:=aV.oY hM.choose_spec.2.2.1
 simp -implicitDefEqProofs only[hqj,aB,seval]
 exact⟨_,rfl,hM,hN⟩
abbrev a2V:=zi tI_3 (zi zI_3 (zi a7 (zi tI_5 (zi zI_5 (zi S3 (zi tI_9 (zi zI_9 (zi d9 (zi tI_40 (zi zI_40 (zi aT3 (zi aT1 (zi aT5 a3H)))))))))))))
theorem NX(k:Int)(st:aA)(h1:k≤1099511627776):aD prog 79 [.int .i64 k] st (fun r st'=>r=.str (mt k)∧st'=st):=by
 refine wF [] 1 func79 ntmps79 rfl rfl ?_
 intro _
 simp -implicitDefEqProofs only[aB,seval]
 refine aT (fun h=>?_) (fun h=>?_)
 · simp -implicitDefEqProofs only[aB,seval]
   simp only[bM] at h
   simp only[mt,h,dX]
 simp only[cM] at h
 obtain⟨n,rfl⟩:=AZ (show 0≤k by omega)
 have hmt:mt (n:Int)=⟨(109::uA n []).toArray⟩:=by simp only[mt,h,cS,jV]
 rw[hmt]
 simp -implicitDefEqProofs only[aB,seval]
 refine pC (σ:=Nat×List UInt8) [] [2] (fun p=>uA p.1 p.2=uA n []∧p.2.length+p.1≤1099511627776) (fun p=>[(0,.int .i64 p.1),(3,.str ⟨p.2.toArray⟩)]) (fun _=>st) (fun p=>p.1) (by decide +kernel)
  ⟨(n,[]),⟨rfl,by simp;omega⟩,aN.mk (by simp -implicitDefEqProofs only[aB,seval])⟩ ?_
 rintro⟨k,acc⟩ ⟨hd,hb⟩
 simp only at hd hb
 simp -implicitDefEqProofs only[aB,seval]
 refine aT (fun h2=>?_) (fun h2=>?_)
 case refine_2=>
  simp only[cM] at h2
  obtain rfl:k=0:=by omega
  rw[aZH] at hd
  have hsz:(⟨#[109]⟩:ByteArray).size+(⟨acc.toArray⟩:ByteArray).size≤maxLen:=by
   show 1+acc.toArray.size≤maxLen
   unfold maxLen
   simp;omega
  simp -implicitDefEqProofs only[hsz,aB,↓aY,seval]
  rw[←hd]
  congr 1
 simp only[bM] at h2
 have hr:((k:Int)).tmod 10=((k % 10:Nat):Int):=by rw[Int.tmod_eq_emod_of_nonneg (by omega)];omega
 have hq:((k:Int)).tdiv 10=((k / 10:Nat):Int):=by rw[Int.tdiv_eq_ediv_of_nonneg (by omega)];omega
 have hw:=bG (n:=48+((k % 10:Nat):Int))
 have hw8:IntKind.wrap .u8 (48+((k % 10:Nat):Int))=((48+k % 10:Nat):Int):=by rw[IntKind.wrap_u8];omega
 have hw2:=bG (n:=((k / 10:Nat):Int))
 have hby:bytesOf [AV.int .u8 ((48+k % 10:Nat):Int)]=some [UInt8.ofNat (48+k % 10)]:=by
  simp only[bytesOf,jV,oB]
 have hsz:(⟨#[UInt8.ofNat (48+k % 10)]⟩:ByteArray).size+(⟨acc.toArray⟩:ByteArray).size≤maxLen:=by
  show 1+acc.toArray.size≤maxLen
  unfold maxLen
  simp;omega
 simp -implicitDefEqProofs only[EE,hr,hq,hw,hw8,hw2,hby,hsz,aB,seval,a2V]
 refine⟨(k / 10,UInt8.ofNat (48+k % 10)::acc),by omega,⟨by rw[←aZG (by omega)];exact hd,by simp only[a8];omega⟩,aN.mk (by simp -implicitDefEqProofs only[aPT,aB,seval])⟩
abbrev aMN:=zi tI_3 (zi zI_3 (zi a7 (zi tI_9 (zi zI_9 (zi d9 (zi tI_31 (zi zI_31 (zi aR (zi bO (zi bP (zi cF (zi tI_66 (zi zI_66 (zi b9 (zi cA (zi cB (zi cC bZ)))))))))))))))))
theorem EU:∀(l:List Tm) (j:Int) (o:AV) (bs:List Nat) (st:aA),aV st (.slice (l.map Tm.av)) o bs→bs.Nodup→0≤j→j+aL Tm.dG l≤1099511627776 →
 aD prog 25 [o,.int .i64 j] st (HN st (.slice ((fW Tm.mark Tm.dG l j).map Tm.av)) o bs (j+aL Tm.dG l))
 | l,j,o,bs,st,hO,hnd,hj0,hj1=>by
  have IH:=fun(k n:Int) (s:ByteArray) (ts:List Tm) (hm:Tm.mk k n s ts∈l)=>EU ts
  obtain⟨hlen,haL⟩:=hO.len
  rw[aE] at hlen
  have haL:=haL prog 31 _ cF
  rw[aE] at haL
  refine wF [] 2 func25 ntmps25 rfl rfl ?_
  simp only[dK]
  intro ⟨hf,_⟩
  have hl:=hlen hf
  clear hf hlen
  simp -implicitDefEqProofs only[aB,seval]
  refine dL (σ:=List Tm×Int×aA) [] [0,4] l
   (fun i p=>p.1.length=i∧p.1++fW Tm.mark Tm.dG (l.drop i) p.2.1=fW Tm.mark Tm.dG l j∧0≤p.2.1∧p.2.1+aL Tm.dG (l.drop i)=j+aL Tm.dG l∧aV p.2.2 (.slice ((p.1++l.drop i).map Tm.av)) o bs∧∀q,q∉bs→p.2.2 q=st q)
   (fun i p=>[(1,.int .i64 p.2.1),(5,.int .i64 i)]) (fun _ p=>p.2.2) (by decide +kernel)
   ⟨([],j,st),⟨rfl,rfl,hj0,rfl,hO,fun _ _=>rfl⟩,aN.mk (by simp -implicitDefEqProofs only[aB,↓aY,seval])⟩ (fun i x p hx hlt bB hdr hinv=>?_) (fun p hge hinv=>?_)
  case refine_2=>
   obtain⟨done,k,s⟩:=p
   obtain⟨i1,i2,i3,i4,i5,i6⟩:=hinv
   simp only at i1 i2 i3 i4 i5 i6
   simp -implicitDefEqProofs only[haL,hge,aB,seval]
   simp only[gT,fW,fA,aL] at i2 i4 i5
   exact⟨by rw[←i4];simp,by rw[←i2];exact i5,i6⟩
  obtain⟨done,k,s⟩:=p
  obtain⟨i1,i2,i3,i4,i5,i6⟩:=hinv
  simp only at i1 i2 i3 i4 i5 i6
  rw[hdr] at i2 i4 i5
  obtain⟨xk,xn,xs,xts⟩:=x
  simp only[aL,Tm.GF] at i4
  have lZ:=GB (av:=Tm.av) (done:=done) (x:=.mk xk xn xs xts) (rest:=l.drop (i+1))
  obtain⟨b,bs',w,A,oe,bo,B,rfl,hbs,hsb,hA,hoe,hbo,hbn,jR,hw,hi,oO⟩:=i5.focus hnd lZ
  rw[aO] at hw
  subst hw
  rw[i1] at hA
  obtain⟨q,rfl,hq⟩:=GI.1 hoe
  have vI:((done++Tm.mk xk xn xs xts::l.drop (i+1)).map Tm.av).length=l.length:=by
   rw[aE,dP,a8,nH,i1];omega
  rw[vI] at haL oO ⊢
  have hat:=kE (b:=b) (len:=l.length) (w:=4) (i:=i) aR hlt
  have a55:∀(c:Nat),c<4→i*4+c+1≤A.length+(4+B.length):=fun c hc=>by rw[hA];omega
  have hw1:=bG (n:=k+1)
  have hw2:=bG (n:=k+1+1)
  have hw3:=bG (n:=k+1+1+1)
  have hw4:=bG (n:=(i:Int)+1)
  obtain⟨e1,e2,e3,e4,e5,e6⟩:=xK (B:=B) hA
  simp -implicitDefEqProofs only[haL,bB,hat,hsb,hw1,hw2,e1,e2,e4,e5,oA,wG,A7,eA,aB,seval,aMN]
  refine(NX (k+1+1) _ (by omega)).to ?_
  simp -implicitDefEqProofs only[hat,e1,e2,e3,wG,A7,eA,hw3,aB,seval,aMN]
  have hqs:∀(o:AO),aV (s.aC b o) (.slice (xts.map Tm.av)) q bo:=fun o=>aV.aU _ _ _ (fun x hx=>aA.aF _ _ (fun e=>hbn (e▸hx))) hq
  have hqa:q.isAgg=false:=(aV.shape hq).1
  simp -implicitDefEqProofs only[hqa,aB,seval]
  refine(IH xk xn xs xts (cG hx) (k+1+1+1) q bo _ (hqs _) hbo (by omega) (by omega)).mono ?_
  rintro _ s2 ⟨rfl,hq2,hk2⟩
  simp -implicitDefEqProofs only[hw4,aB,seval]
  refine⟨(done++ [(Tm.mk xk xn xs xts).mark k],k+1+1+1+aL Tm.dG xts,s2),⟨?_,?_,?_,?_,?_,?_⟩,aN.mk (by simp -implicitDefEqProofs only[aB,seval])⟩
  · simp [i1]
  · simp only[fW,Tm.GF] at i2
    rw[←i2,show k+((3+aL Tm.dG xts:Nat):Int)=k+1+1+1+(aL Tm.dG xts:Int) by omega]
    simp
  · simp only;omega
  · simp only;omega
  · have:=oO s2 ((Tm.mk xk xn xs xts).mark k).av (.agg [.int .i64 k,.int .i64 (k+1),.str (mt (k+1+1)),q]) (aO _) (fun x hx hxb hxo=>by rw[hk2 x hxo,aA.aF _ _ hxb]) (by rw[hk2 b hbn,aA.aJ];try rfl) (by rw[Tm.aJ0];exact GI.2 ⟨q,rfl,hq2⟩)
    rw[GC] at this
    exact this
  · intro x hx
    have hxb:x≠b:=fun e=>hx (by rw[hbs];simp [e])
    have hxo:x∉bo:=fun e=>hx (jR x e)
    show s2 x=st x
    rw[hk2 x hxo,aA.aF _ _ hxb,i6 x hx]
termination_by l=>SizeOf.sizeOf l
decreasing_by have:=List.sizeOf_lt_of_mem hm;simp only[Tm.mk.sizeOf_spec] at this;omega
abbrev LD:=zi tI_3 (zi zI_3 (zi a7 (zi tI_23 (zi zI_23 (zi rD (zi tP (zi tQ (zi rU (zi tI_31 (zi zI_31 (zi aR (zi bO (zi bP (zi cF (zi tI_66 (zi zI_66 (zi b9 (zi cA (zi cB (zi cC (zi bZ (zi tI_90 (zi zI_90 (zi w6 (zi w7 (zi w8 (zi w9 wR)))))))))))))))))))))))))))
theorem aKG(l:List Tm)(st:aA)(hb:l.length≤1048576)(hc:∀x∈l,∀(st:aA),aD prog 74 [Tm.av x] st (Made st (Tm.av x))) :
 aD prog 19 [.slice (l.map Tm.av)] st (Made st (.slice (l.map Tm.av))):=by
 refine wF [] 1 func19 ntmps19 rfl rfl ?_
 intro _
 simp -implicitDefEqProofs only[aE,sC,aB,↓aY,seval,LD]
 refine⟨by omega,by omega,by omega,?_⟩
 intro b hn
 rw[jV,F9 _ (by simp)]
 refine dL (σ:=List AV×List Nat×aA) [] [0,2,3] l (fun i p=>pI (l.map Tm.av) [.int .i64 0,.int .i64 0,.str ⟨#[]⟩,.fslice []] b st i p) (fun i _=>[(4,.int .i64 i)]) (fun _ p=>p.2.2) (by decide +kernel)
  ⟨([],[],_),?_,aN.mk (by simp -implicitDefEqProofs only[aB,↓aY,seval])⟩ (fun i x p hx hlt bB hdr hinv=>?_) (fun p hge hinv=>?_)
 · exact pI.start hn (by rw[aE])
 case refine_3=>
  obtain⟨os,bs,s⟩:=p
  simp -implicitDefEqProofs only[aE,hge,aB,seval,LD]
  exact hinv.done (aE _) (fun e he=>by simp only[bY] at he;obtain⟨t,_,rfl⟩:=he;exact aO t)
 obtain⟨os,bs,s⟩:=p
 simp -implicitDefEqProofs only[aE,bB,bH (av:=Tm.av) rD hx (aO x),cE,aO,aB,seval,LD]
 refine(hc x (cG hx) _).mono ?_
 rintro r s2 FY
 obtain⟨A,B,hs2,hA,hrw,hrs,F0⟩:=hinv.step FY (show(l.map Tm.av)[i]?=some (Tm.av x) by rw[kS,hx];try rfl) (aO x) (fun e he=>by simp only[bY] at he;obtain⟨t,_,rfl⟩:=he;exact aO t) rfl (Tm.d5 x) (.inl (cE x))
 have hat:=kE (b:=b) (len:=l.length) (w:=4) (i:=i) aR hlt
 obtain⟨hp1,hp2⟩:=KP (B:=B) (C:=[.int .i64 0,.int .i64 0,.str ⟨#[]⟩,.fslice []]) (x:=r.cells) hA rfl hrw
 have hw:=bG (n:=(i:Int)+1)
 simp -implicitDefEqProofs only[hat,hs2,hrw,hrs,hp1,hw,aB,seval,LD]
 refine⟨hp2,?_⟩
 exact⟨_,F0,aN.mk (by simp -implicitDefEqProofs only[aB,seval])⟩
abbrev aMM:=zi tI_3 (zi zI_3 (zi a7 (zi tI_9 (zi zI_9 (zi d9 (zi tI_23 (zi zI_23 (zi rD (zi tP (zi tQ (zi rU (zi tI_31 (zi zI_31 (zi aR (zi bO (zi bP (zi cF (zi tI_66 (zi zI_66 (zi b9 (zi cA (zi cB (zi cC (zi bZ (zi tI_90 (zi zI_90 (zi w6 (zi w7 (zi w8 (zi w9 wR))))))))))))))))))))))))))))))
theorem QH:∀(a:Tm) (st:aA),a.sz≤1048576→aD prog 74 [a.av] st (Made st a.av)
 | .mk k n s ts,st,hb=>by
  rw[Tm.K7] at hb
  have hc:=fun st=>aKG ts st (by omega) fun x hx st=>QH x st (by have:=qF (f:=Tm.sz) hx;omega)
  refine aD.KH ?_
  refine wF [] 1 func74 ntmps74 rfl rfl ?_
  intro _
  simp only[bA]
  simp -implicitDefEqProofs only[aB,seval,aMM]
  intro b hb1 b2 hb2
  have hne:b2≠b:=by rintro rfl;rw[aA.aJ] at hb2;cases hb2
  have hn2:st b2=none:=by rw[aA.aF st _ hne] at hb2;exact hb2
  simp -implicitDefEqProofs only[aP,aB,seval]
  refine(hc _).mono ?_
  rintro q s2 ⟨bs,m1,m2,m3,m4⟩
  have hbb:b∉bs:=fun h=>by have:=m2 b h;simp [d8,hne.symm] at this
  have oN:b2∉bs:=fun h=>by have:=m2 b2 h;simp [d8] at this
  have e1:=m4 b hbb
  have e2:=m4 b2 oN
  simp only[d8,hne,hne.symm,dX,cS] at e1 e2
  have hqc:q.cells= [q]:=by have:=(aV.shape m3).1;cases q<;>first | rfl | simp [AV.isAgg] at this
  have hqs:q.storable=true:=by
   have:=m3
   simp only[aV] at this
   rcases this with ⟨_,rfl,_⟩ | ⟨_,_,_,_,rfl,_⟩<;>rfl
  simp -implicitDefEqProofs only[d8,hne.symm,e1,e2,hqc,hqs,aP,aB,seval,aMM]
  refine⟨[b,b2],bs,m1,fun x hx=>?_,?_,?_,?_⟩
  · have:=m2 x hx
    have h1:x≠b:=fun e=>hbb (e▸hx)
    have h2:x≠b2:=fun e=>oN (e▸hx)
    simpa [d8,h1,h2] using this
  · simp [hb1,hn2,hbb,oN]
  · rw[←bA]
    refine GI.2 ⟨q,rfl,aV.aU _ _ _ (fun x hx=>?_) m3⟩
    have h1:x≠b:=fun e=>hbb (e▸hx)
    have h2:x≠b2:=fun e=>oN (e▸hx)
    simp only[d8,h1,h2,cS]
  · intro x hx hd
    simp only[cQ,dD,dN,kH] at hd
    simp only[d8,hd.1,hd.2,cS]
    rw[m4 x hx]
    simp only[d8,hd.1,hd.2,cS]
termination_by a=>SizeOf.sizeOf a
decreasing_by have:=List.sizeOf_lt_of_mem hx;simp only[Tm.mk.sizeOf_spec];omega
abbrev SN:=zi tI_3 (zi zI_3 (zi a7 (zi tI_4 (zi zI_4 (zi cL (zi tI_31 (zi zI_31 (zi aR (zi bO (zi bP (zi cF (zi tI_66 (zi zI_66 (zi b9 (zi cA (zi cB (zi cC bZ)))))))))))))))))
theorem II(l l':List Tm)(st:aA)(hc:∀x∈l,∀(y:Tm) (st:aA),aD prog 78 [Tm.av x,Tm.av y] st (fun r st'=>r=.bool (Tm.same x y)∧st'=st)) :
 aD prog 23 [.slice (l.map Tm.av),.slice (l'.map Tm.av)] st (fun r st'=>r=.bool (g7 Tm.same l l')∧st'=st):=by
 refine wF [] 2 func23 ntmps23 rfl rfl ?_
 simp only[dK,AV.fits,dT,aE]
 intro ⟨⟨hl,_⟩,⟨hl',_⟩⟩
 simp -implicitDefEqProofs only[aE,aB,seval,SN]
 refine⟨fun h4=>?_,fun h4=>?_⟩
 · simp -implicitDefEqProofs only[aB,seval]
   simp only[gW,cM] at h4
   rw[B8 _ (show l.length≠l'.length by omega)]
 simp -implicitDefEqProofs only[aB,seval]
 simp only[kJ,bM] at h4
 have h4':l.length=l'.length:=by omega
 refine n6 (α:=Nat) [] (fun i=>i≤l.length∧∀(j:Nat) (x y:Tm),j<i→l[j]?=some x→l'[j]?=some y→Tm.same x y=true)
  (fun i=>[(0,.slice (l.map Tm.av)),(1,.slice (l'.map Tm.av)),(5,.int .i64 i)]) (fun _=>st) (fun i=>l.length - i) (by decide +kernel)
  ⟨0,⟨by omega,by intro j x y h;omega⟩,aN.mk (by simp -implicitDefEqProofs only[aB,↓aY,seval])⟩ ?_
 intro i ⟨hi,dC⟩
 simp -implicitDefEqProofs only[aE,aB,seval,SN]
 refine⟨fun h5=>?_,fun h5=>?_⟩
 case refine_2=>
  simp -implicitDefEqProofs only[aB,seval]
  simp only[cM,gX] at h5
  rw[B5 _ h4' (fun j x y h6 h7=>dC j x y (by have:=(eE.1 h6).1;omega) h6 h7)]
 simp only[bM,gX] at h5
 obtain⟨x,hx⟩:∃x,l[i]?=some x:=⟨_,dZ h5⟩
 obtain⟨y,hy⟩:∃y,l'[i]?=some y:=⟨_,dZ (h4'▸h5)⟩
 simp -implicitDefEqProofs only[aB,seval]
 refine EN mixed (by decide +kernel) (by decide +kernel) ?_
 simp -implicitDefEqProofs only[bH (av:=Tm.av) aR hx (aO x),bH (av:=Tm.av) aR hy (aO y),cE,aO,aB,seval,SN]
 refine(hc x (cG hx) y st).to ?_
 simp -implicitDefEqProofs only[aB,seval]
 refine⟨fun h6=>?_,fun h6=>?_⟩
 · simp -implicitDefEqProofs only[aB,seval]
   have h7:Tm.same x y=false:=by simpa using h6
   rw[B6 _ i x y hx hy h7]
 have h7:Tm.same x y=true:=by simpa using h6
 simp -implicitDefEqProofs only[aB,seval]
 refine⟨i+1,by omega,⟨by omega,fun j u v hj hu hv=>?_⟩,aN.mk ?_⟩
 · rcases lI j i with h8 | h8
   · exact dC j u v h8 hu hv
   · obtain rfl:j=i:=by omega
     rw[hx] at hu;rw[hy] at hv;cases hu;cases hv;exact h7
 · have:=bG (n:=(i:Int)+1)
   simp -implicitDefEqProofs only[this,aB,seval]
abbrev SM:=zi tI_3 (zi zI_3 (zi a7 (zi tI_23 (zi zI_23 (zi rD (zi tP (zi tQ (zi rU (zi tI_90 (zi zI_90 (zi w6 (zi w7 (zi w8 (zi w9 wR))))))))))))))
theorem WG(l:List Tm)(left:Int)(st:aA)(h0:0≤left)(h1:left≤1048576)(hc:∀x∈l,∀(left:Int) (st:aA),0≤left→left≤1048576→aD prog 70 [Tm.av x,.int .i64 left] st (fun r st'=>r=.int .i64 (iE left (Tm.sz x))∧st'=st)) :
 aD prog 16 [.slice (l.map Tm.av),.int .i64 left] st (fun r st'=>r=.int .i64 (iE left (l.length+aL Tm.sz l))∧st'=st):=by
 refine wF [] 2 func16 ntmps16 rfl rfl ?_
 simp only[dK,AV.fits,dT,aE]
 intro ⟨hl,_⟩
 have hw:=bG (n:=left - (l.length:Int))
 simp -implicitDefEqProofs only[aE,hw,aB,seval,SM]
 refine⟨fun h4=>?_,fun h4=>?_⟩
 · simp -implicitDefEqProofs only[aB,seval]
   simp only[bM] at h4
   simp only[iE]
   rw[aH (by omega)]
 simp only[cM] at h4
 simp -implicitDefEqProofs only[aB,seval]
 refine n6 (α:=Nat) [] (fun i=>i≤l.length∧((l.length+aL Tm.sz (l.take i):Nat):Int)≤left)
  (fun i=>[(0,.slice (l.map Tm.av)),(1,.int .i64 (left - ((l.length+aL Tm.sz (l.take i):Nat):Int))),(5,.int .i64 i)]) (fun _=>st) (fun i=>l.length - i) (by decide +kernel)
  ⟨0,⟨by omega,by simp only[jJ,aL];omega⟩,aN.mk (by simp -implicitDefEqProofs only[aL,oA,aB,↓aY,seval])⟩ ?_
 intro i ⟨hi,hle⟩
 simp -implicitDefEqProofs only[aE,aB,seval,SM]
 refine⟨fun h5=>?_,fun h5=>?_⟩
 case refine_2=>
  simp -implicitDefEqProofs only[aB,seval]
  simp only[cM,gX] at h5
  rw[show i=l.length by omega,dQ] at hle ⊢
  rw[pA (by omega)]
 simp only[bM,gX] at h5
 obtain⟨x,hx⟩:∃x,l[i]?=some x:=⟨_,dZ h5⟩
 simp -implicitDefEqProofs only[bH (av:=Tm.av) rD hx (aO x),cE,aO,aB,seval,SM]
 refine(hc x (cG hx) _ st (by omega) (by omega)).to ?_
 have hs:=uD Tm.sz hx
 simp -implicitDefEqProofs only[aB,seval]
 refine⟨fun h6=>?_,fun h6=>?_⟩
 · simp -implicitDefEqProofs only[aB,seval]
   simp only[bM,mN] at h6
   simp only[iE]
   rw[aH (by omega)]
 simp only[cM,mN] at h6
 rw[pA h6]
 simp -implicitDefEqProofs only[aB,seval]
 refine⟨i+1,by omega,⟨by omega,by omega⟩,aN.mk ?_⟩
 · have:=bG (n:=(i:Int)+1)
   have e:(left - ((l.length+aL Tm.sz (l.take (i+1)):Nat):Int))=left - ((l.length+aL Tm.sz (l.take i):Nat):Int) - ((Tm.sz x:Nat):Int):=by omega
   simp -implicitDefEqProofs only[this,e,aB,seval]
abbrev LK:=zi tI_3 (zi zI_3 (zi a7 (zi tI_4 (zi zI_4 (zi cL (zi tI_9 (zi zI_9 (zi d9 (zi tI_31 (zi zI_31 (zi aR (zi bO (zi bP (zi cF (zi tI_66 (zi zI_66 (zi b9 (zi cA (zi cB (zi cC bZ))))))))))))))))))))
theorem ER:∀(a b:Tm) (st:aA),aD prog 78 [a.av,b.av] st (fun r st'=>r=.bool (a.same b)∧st'=st)
 | .mk k n s ts,.mk k' n' s' ts',st=>by
  have hc:=II ts ts' st fun x hx y st=>ER x y st
  refine wF [] 2 func78 ntmps78 rfl rfl ?_
  intro _
  simp only[bA,Tm.KZ]
  simp -implicitDefEqProofs only[aB,seval,LK]
  refine⟨fun h1=>?_,fun h1=>?_⟩
  · simp -implicitDefEqProofs only[aB,seval]
    simp only[gW] at h1
    simp [h1]
  simp only[kJ] at h1
  simp -implicitDefEqProofs only[aB,seval,LK]
  refine⟨fun h2=>?_,fun h2=>?_⟩
  · simp -implicitDefEqProofs only[aB,seval]
    simp only[gW] at h2
    simp [h2]
  simp only[kJ] at h2
  simp -implicitDefEqProofs only[aB,seval,LK]
  refine⟨fun h3=>?_,fun h3=>?_⟩
  · simp -implicitDefEqProofs only[aB,seval]
    simp only[gW] at h3
    simp [h3]
  simp only[kJ] at h3
  simp -implicitDefEqProofs only[aB,seval,LK]
  refine hc.to ?_
  simp -implicitDefEqProofs only[aB,seval]
  refine⟨fun h4=>?_,fun h4=>?_⟩<;>simp -implicitDefEqProofs only[aB,seval]
  · simp only[gW] at h4
    simp [h4]
  · simp only[kJ] at h4
    simp [h1,h2,h3,h4]
termination_by a=>SizeOf.sizeOf a
decreasing_by have:=List.sizeOf_lt_of_mem hx;simp only[Tm.mk.sizeOf_spec];omega
abbrev aM1:=zi tI_3 (zi zI_3 (zi a7 (zi tI_9 (zi zI_9 (zi d9 (zi tI_23 (zi zI_23 (zi rD (zi tP (zi tQ (zi rU (zi tI_90 (zi zI_90 (zi w6 (zi w7 (zi w8 (zi w9 wR)))))))))))))))))
theorem N3:∀(a:Tm) (left:Int) (st:aA),0≤left→left≤1048576→aD prog 70 [a.av,.int .i64 left] st (fun r st'=>r=.int .i64 (iE left a.sz)∧st'=st)
 | .mk k n s ts,left,st,h0,h1=>by
  have hc:=fun(left:Int) h0 h1=>WG ts left st h0 h1 fun x hx left st h0 h1=>N3 x left st h0 h1
  refine wF [] 2 func70 ntmps70 rfl rfl ?_
  simp only[bA,Tm.K7,dK,AV.fits,dT]
  intro ⟨_,_,hs,_⟩
  have hw:=bG (n:=left - (s.size:Int))
  simp -implicitDefEqProofs only[hw,aB,seval,aM1]
  refine⟨fun h2=>?_,fun h2=>?_⟩
  · simp -implicitDefEqProofs only[aB,seval]
    simp only[bM] at h2
    simp only[iE]
    rw[aH (by omega)]
  simp only[cM] at h2
  simp -implicitDefEqProofs only[aB,seval,aM1]
  refine(hc _ (by omega) (by omega)).to ?_
  simp -implicitDefEqProofs only[aB,seval]
  refine⟨fun h3=>?_,fun h3=>?_⟩
  · simp -implicitDefEqProofs only[aB,seval]
    simp only[bM,mN] at h3
    simp only[iE]
    rw[aH (by omega)]
  simp only[cM,mN] at h3
  simp -implicitDefEqProofs only[aB,seval]
  rw[pA h3,pA (by omega)]
  simp only[AV.int.injEq,true_and]
  omega
termination_by a=>SizeOf.sizeOf a
decreasing_by have:=List.sizeOf_lt_of_mem hx;simp only[Tm.mk.sizeOf_spec];omega
theorem QA{α:Type}(mk:α→Int→α)(n:α→Nat):∀(l:List α) (j:Int) (i:Nat),(fW mk n l j).drop i=fW mk n (l.drop i) (j+aL n (l.take i))
 | [],_,i=>by simp [fW]
 | x::l,j,0=>by simp [aL]
 | x::l,j,i+1=>by
  simp only[fW,List.drop_succ_cons,wH,aL,QA mk n l _ i]
  congr 1
  omega
abbrev LB:=zi tI_3 (zi zI_3 (zi a7 (zi tI_9 (zi zI_9 (zi d9 (zi tI_31 (zi zI_31 (zi aR (zi bO (zi bP (zi cF (zi tI_66 (zi zI_66 (zi b9 (zi cA (zi cB (zi cC bZ)))))))))))))))))
theorem VG:∀(l:List Tm) (j:Int) (st:aA),0≤j→j+aL Tm.dG l≤1099511627776 →
 aD prog 80 [.slice ((fW Tm.mark Tm.dG l j).map Tm.av),.int .i64 j] st (fun r st'=>r=.int .i64 (j+aL Tm.dG l)∧st'=st)
 | l,j,st,h0,h1=>by
  have IH:=fun(k n:Int) (s:ByteArray) (ts:List Tm) (hm:Tm.mk k n s ts∈l)=>VG ts
  refine wF [1000000] 2 func80 ntmps80 rfl rfl ?_
  simp only[dK,AV.fits,dT,aE,GA]
  intro ⟨hl,_⟩
  have hML:(fW Tm.mark Tm.dG l j).length=l.length:=GA _ _ _ _
  simp -implicitDefEqProofs only[aB,seval]
  refine dL (σ:=Unit) [1000000] [0] (fW Tm.mark Tm.dG l j) (fun i _=>True) (fun i _=>[(1,.int .i64 (j+aL Tm.dG (l.take i))),(5,.int .i64 i)]) (fun _ _=>st) (by decide +kernel) ⟨(),trivial,aN.mk (by simp -implicitDefEqProofs only[aL,jJ,Int.add_zero,aB,↓aY,seval])⟩ (fun i x _ hx hlt bB hdr _=>?_) (fun _ hge _=>?_)
  case refine_2=>
   rw[hML] at hge
   simp -implicitDefEqProofs only[hge,dQ,aE,hML,aB,seval,LB]
  rw[hML] at hlt bB
  obtain⟨y,hy⟩:∃y,l[i]?=some y:=⟨_,dZ hlt⟩
  obtain⟨k,n,s,ts⟩:=y
  have hxy:x=(Tm.mk k n s ts).mark (j+aL Tm.dG (l.take i)):=by
   have:=QA Tm.mark Tm.dG l j i
   rw[hdr,pE hlt,fW,(eE.1 hy).2] at this
   exact(uK this).1
  have hs:=uD Tm.dG hy
  rw[Tm.GF] at hs
  rw[Tm.aJ0] at hxy
  have hat:=bH (av:=Tm.av) aR hx (aO x)
  rw[hxy,bA] at hat
  obtain⟨hs1,hs2⟩:=hs
  generalize hk:j+(aL Tm.dG (l.take i):Int)=m at *
  have hw1:=bG (n:=m+1)
  have hw2:=bG (n:=m+1+1)
  have hw3:=bG (n:=m+1+1+1)
  have hw:=bG (n:=(i:Int)+1)
  simp -implicitDefEqProofs only[bB,f6,mC,aE,hML,hat,hw1,hw2,aB,seval,LB]
  refine wP [(0,1),(1,1),(2,1),(3,1),(5,1),(4,2),(6,2),(7,1)] [0,1,2,3,5,4,6,7] mixed ?_
  simp -implicitDefEqProofs only[hat,aB,seval,LB]
  refine kC (NX (m+1+1) _ (by omega)) ?_
  simp -implicitDefEqProofs only[f6,mC,hat,hw3,aB,seval,LB]
  refine(IH k n s ts (cG hy) (m+1+1+1) _ (by omega) (by omega)).to ?_
  have p5:¬(m+1+1+1+(aL Tm.dG ts:Int)<0):=by omega
  simp -implicitDefEqProofs only[p5,gB,aB,seval]
  refine⟨(),aN.mk ?_⟩
  have e:j+(aL Tm.dG (l.take (i+1)):Int)=m+1+1+1+(aL Tm.dG ts:Int):=by omega
  simp -implicitDefEqProofs only[hw,e,aB,seval]
termination_by l=>SizeOf.sizeOf l
decreasing_by have:=List.sizeOf_lt_of_mem hm;simp only[Tm.mk.sizeOf_spec] at this;omega
abbrev rN (l:List Tm):Nat:=l.length+aL Tm.sz l
theorem WH(l:List Tm)(left:Int)(st:aA)(h0:0≤left)(h1:left≤1048576):aD prog 16 [.slice (l.map Tm.av),.int .i64 left] st (fun r st'=>r=.int .i64 (iE left (rN l))∧st'=st):=
 WG l left st h0 h1 fun x _ left st h0 h1=>N3 x left st h0 h1
theorem aQ1(l:List Tm)(st:aA):aD prog 23 [.slice (l.map Tm.av),.slice (l.map Tm.av)] st (fun r st'=>r=.bool true∧st'=st):=by
 refine(II l l st fun x _ y st=>ER x y st).mono ?_
 rintro _ _ ⟨rfl,rfl⟩
 refine⟨?_,rfl⟩
 rw[(B7 (fun x _ y=>Tm.zZ x y)).2 rfl]
theorem a16{l:List Tm}{x:Tm}(hx:x∈l):x.sz≤rN l:=by have:=qF (f:=Tm.sz) hx;unfold rN;omega
theorem aKH(l:List Tm)(st:aA)(hb:rN l≤1048576):aD prog 19 [.slice (l.map Tm.av)] st (Made st (.slice (l.map Tm.av))):=
 aKG l st (by unfold rN at hb;omega) fun x hx st=>QH x st (by have:=a16 hx;omega)
mutual
theorem Tm.aJ7:∀(t:Tm),t.dG≤3+3*t.sz
 | .mk k n s ts=>by
  have:=SR ts
  rw[Tm.dG,Tm.K7]
  omega
theorem SR:∀(ts:List Tm),AH ts≤3*(ts.length+aL Tm.sz ts)
 | []=>by simp [AH]
 | t::ts=>by
  have h1:=Tm.aJ7 t
  have h2:=SR ts
  simp only[AH,a8,aL]
  omega
end
theorem aJ8(l:List Tm):aL Tm.dG l≤3*rN l:=by rw[←SQ];exact SR l
abbrev RW:=zi tI_3 (zi zI_3 (zi a7 (zi tI_4 (zi zI_4 (zi cL (zi tI_29 (zi zI_29 (zi eP (zi gO (zi gP (zi gV (zi tI_84 (zi zI_84 (zi lB (zi lC kV)))))))))))))))
theorem aQX(l l':List Cl)(st:aA)(hc:∀x∈l,∀(y:Cl) (st:aA),aD prog 77 [bK x,bK y] st (fun r st'=>r=.bool (tL x y)∧st'=st)) :
 aD prog 22 [.slice (l.map bK),.slice (l'.map bK)] st (fun r st'=>r=.bool (g7 tL l l')∧st'=st):=by
 refine wF [] 2 func22 ntmps22 rfl rfl ?_
 simp only[dK,AV.fits,dT,aE]
 intro ⟨⟨hl,_⟩,⟨hl',_⟩⟩
 simp -implicitDefEqProofs only[aE,aB,seval,RW]
 refine⟨fun h4=>?_,fun h4=>?_⟩
 · simp -implicitDefEqProofs only[aB,seval]
   simp only[gW,cM] at h4
   rw[B8 _ (show l.length≠l'.length by omega)]
 simp -implicitDefEqProofs only[aB,seval]
 simp only[kJ,bM] at h4
 have h4':l.length=l'.length:=by omega
 refine n6 (α:=Nat) [] (fun i=>i≤l.length∧∀(j:Nat) (x y:Cl),j<i→l[j]?=some x→l'[j]?=some y→tL x y=true)
  (fun i=>[(0,.slice (l.map bK)),(1,.slice (l'.map bK)),(5,.int .i64 i)]) (fun _=>st) (fun i=>l.length - i) (by decide +kernel)
  ⟨0,⟨by omega,by intro j x y h;omega⟩,aN.mk (by simp -implicitDefEqProofs only[aB,↓aY,seval])⟩ ?_
 intro i ⟨hi,dC⟩
 simp -implicitDefEqProofs only[aE,aB,seval,RW]
 refine⟨fun h5=>?_,fun h5=>?_⟩
 case refine_2=>
  simp -implicitDefEqProofs only[aB,seval]
  simp only[cM,gX] at h5
  rw[B5 _ h4' (fun j x y h6 h7=>dC j x y (by have:=(eE.1 h6).1;omega) h6 h7)]
 simp only[bM,gX] at h5
 obtain⟨x,hx⟩:∃x,l[i]?=some x:=⟨_,dZ h5⟩
 obtain⟨y,hy⟩:∃y,l'[i]?=some y:=⟨_,dZ (h4'▸h5)⟩
 simp -implicitDefEqProofs only[aB,seval]
 refine EN mixed (by decide +kernel) (by decide +kernel) ?_
 simp -implicitDefEqProofs only[bH (av:=bK) eP hx (gA x),bH (av:=bK) eP hy (gA y),sJ,gA,aB,seval,RW]
 refine(hc x (cG hx) y st).to ?_
 simp -implicitDefEqProofs only[aB,seval]
 refine⟨fun h6=>?_,fun h6=>?_⟩
 · simp -implicitDefEqProofs only[aB,seval]
   have h7:tL x y=false:=by simpa using h6
   rw[B6 _ i x y hx hy h7]
 have h7:tL x y=true:=by simpa using h6
 simp -implicitDefEqProofs only[aB,seval]
 refine⟨i+1,by omega,⟨by omega,fun j u v hj hu hv=>?_⟩,aN.mk ?_⟩
 · rcases lI j i with h8 | h8
   · exact dC j u v h8 hu hv
   · obtain rfl:j=i:=by omega
     rw[hx] at hu;rw[hy] at hv;cases hu;cases hv;exact h7
 · have:=bG (n:=(i:Int)+1)
   simp -implicitDefEqProofs only[this,aB,seval]
abbrev RV:=zi tI_3 (zi zI_3 (zi a7 (zi tI_22 (zi zI_22 (zi B2 (zi I1 (zi I5 (zi HC (zi tI_92 (zi zI_92 (zi JK (zi JL H9))))))))))))
theorem aS1(l:List Cl)(left:Int)(st:aA)(h0:0≤left)(h1:left≤1048576)(hc:∀x∈l,∀(left:Int) (st:aA),0≤left→left≤1048576→aD prog 69 [bK x,.int .i64 left] st (fun r st'=>r=.int .i64 (iE left (lY x))∧st'=st)) :
 aD prog 15 [.slice (l.map bK),.int .i64 left] st (fun r st'=>r=.int .i64 (iE left (l.length+aL lY l))∧st'=st):=by
 refine wF [] 2 func15 ntmps15 rfl rfl ?_
 simp only[dK,AV.fits,dT,aE]
 intro ⟨hl,_⟩
 have hw:=bG (n:=left - (l.length:Int))
 simp -implicitDefEqProofs only[aE,hw,aB,seval,RV]
 refine⟨fun h4=>?_,fun h4=>?_⟩
 · simp -implicitDefEqProofs only[aB,seval]
   simp only[bM] at h4
   simp only[iE]
   rw[aH (by omega)]
 simp only[cM] at h4
 simp -implicitDefEqProofs only[aB,seval]
 refine n6 (α:=Nat) [] (fun i=>i≤l.length∧((l.length+aL lY (l.take i):Nat):Int)≤left)
  (fun i=>[(0,.slice (l.map bK)),(1,.int .i64 (left - ((l.length+aL lY (l.take i):Nat):Int))),(5,.int .i64 i)]) (fun _=>st) (fun i=>l.length - i) (by decide +kernel)
  ⟨0,⟨by omega,by simp only[jJ,aL];omega⟩,aN.mk (by simp -implicitDefEqProofs only[aL,oA,aB,↓aY,seval])⟩ ?_
 intro i ⟨hi,hle⟩
 simp -implicitDefEqProofs only[aE,aB,seval,RV]
 refine⟨fun h5=>?_,fun h5=>?_⟩
 case refine_2=>
  simp -implicitDefEqProofs only[aB,seval]
  simp only[cM,gX] at h5
  rw[show i=l.length by omega,dQ] at hle ⊢
  rw[pA (by omega)]
 simp only[bM,gX] at h5
 obtain⟨x,hx⟩:∃x,l[i]?=some x:=⟨_,dZ h5⟩
 simp -implicitDefEqProofs only[bH (av:=bK) B2 hx (gA x),sJ,gA,aB,seval,RV]
 refine(hc x (cG hx) _ st (by omega) (by omega)).to ?_
 have hs:=uD lY hx
 simp -implicitDefEqProofs only[aB,seval]
 refine⟨fun h6=>?_,fun h6=>?_⟩
 · simp -implicitDefEqProofs only[aB,seval]
   simp only[bM,mN] at h6
   simp only[iE]
   rw[aH (by omega)]
 simp only[cM,mN] at h6
 rw[pA h6]
 simp -implicitDefEqProofs only[aB,seval]
 refine⟨i+1,by omega,⟨by omega,by omega⟩,aN.mk ?_⟩
 · have:=bG (n:=(i:Int)+1)
   have e:(left - ((l.length+aL lY (l.take (i+1)):Nat):Int))=left - ((l.length+aL lY (l.take i):Nat):Int) - ((lY x:Nat):Int):=by omega
   simp -implicitDefEqProofs only[this,e,aB,seval]
abbrev K8:=zi tI_3 (zi zI_3 (zi a7 (zi tI_22 (zi zI_22 (zi B2 (zi I1 (zi I5 (zi HC (zi tI_29 (zi zI_29 (zi eP (zi gO (zi gP (zi gV (zi tI_84 (zi zI_84 (zi lB (zi lC (zi kV (zi tI_92 (zi zI_92 (zi JK (zi JL H9)))))))))))))))))))))))
theorem aZT(l:List Cl)(st:aA)(hb:l.length≤1048576)(hc:∀x∈l,∀(st:aA),aD prog 73 [bK x] st (Made st (bK x))) :
 aD prog 18 [.slice (l.map bK)] st (Made st (.slice (l.map bK))):=by
 refine wF [] 1 func18 ntmps18 rfl rfl ?_
 intro _
 simp -implicitDefEqProofs only[aE,sC,aB,↓aY,seval,K8]
 refine⟨by omega,by omega,by omega,?_⟩
 intro b hn
 rw[jV,F9 _ (by simp)]
 refine dL (σ:=List AV×List Nat×aA) [] [0,2,3] l (fun i p=>pI (l.map bK) [.int .i64 0,.int .i64 0,.str ⟨#[]⟩,.fslice [],.fslice []] b st i p) (fun i _=>[(4,.int .i64 i)]) (fun _ p=>p.2.2) (by decide +kernel)
  ⟨([],[],_),?_,aN.mk (by simp -implicitDefEqProofs only[aB,↓aY,seval])⟩ (fun i x p hx hlt bB hdr hinv=>?_) (fun p hge hinv=>?_)
 · exact pI.start hn (by rw[aE])
 case refine_3=>
  obtain⟨os,bs,s⟩:=p
  simp -implicitDefEqProofs only[aE,hge,aB,seval,K8]
  exact hinv.done (aE _) (fun e he=>by simp only[bY] at he;obtain⟨t,_,rfl⟩:=he;exact gA t)
 obtain⟨os,bs,s⟩:=p
 simp -implicitDefEqProofs only[aE,bB,bH (av:=bK) B2 hx (gA x),sJ,gA,aB,seval,K8]
 refine(hc x (cG hx) _).mono ?_
 rintro r s2 FY
 obtain⟨A,B,hs2,hA,hrw,hrs,F0⟩:=hinv.step FY (show(l.map bK)[i]?=some (bK x) by rw[kS,hx];try rfl) (gA x) (fun e he=>by simp only[bY] at he;obtain⟨t,_,rfl⟩:=he;exact gA t) rfl (IT x) (.inl (sJ x))
 have hat:=kE (b:=b) (len:=l.length) (w:=5) (i:=i) eP hlt
 obtain⟨hp1,hp2⟩:=KP (B:=B) (C:=[.int .i64 0,.int .i64 0,.str ⟨#[]⟩,.fslice [],.fslice []]) (x:=r.cells) hA rfl hrw
 have hw:=bG (n:=(i:Int)+1)
 simp -implicitDefEqProofs only[hat,hs2,hrw,hrs,hp1,hw,aB,seval,K8]
 refine⟨hp2,?_⟩
 exact⟨_,F0,aN.mk (by simp -implicitDefEqProofs only[aB,seval])⟩
abbrev aL5:=zi tI_4 (zi zI_4 (zi cL (zi tI_31 (zi zI_31 (zi aR (zi bO (zi bP (zi cF (zi tI_66 (zi zI_66 (zi b9 (zi cA (zi cB (zi cC (zi bZ (zi tI_84 (zi zI_84 (zi lB (zi lC kV)))))))))))))))))))
theorem aQW(x y:Cl)(st:aA):aD prog 77 [bK x,bK y] st (fun r st'=>r=.bool (tL x y)∧st'=st):=by
 obtain⟨⟨k,n,s,ts⟩,b⟩:=x
 obtain⟨⟨k',n',s',ts'⟩,b'⟩:=y
 have hg:=fun st=>ER (.mk k n s ts) (.mk k' n' s' ts') st
 simp only[bA] at hg
 have hc:=fun st=>II b b' st fun x _ y st=>ER x y st
 simp only[m7]
 refine wF [1000000] 2 func77 ntmps77 rfl rfl ?_
 intro _
 simp -implicitDefEqProofs only[aB,seval,aL5]
 refine(hg _).to ?_
 simp only[tL]
 simp -implicitDefEqProofs only[aB,seval]
 refine aT (fun h1=>?_) (fun h1=>?_)
 · simp -implicitDefEqProofs only[aB,seval]
   simp only[gW] at h1
   simp [h1]
 simp only[kJ] at h1
 simp -implicitDefEqProofs only[aB,seval,aL5]
 refine(hc _).to ?_
 simp -implicitDefEqProofs only[aB,seval]
 refine aT (fun h2=>?_) (fun h2=>?_)<;>simp -implicitDefEqProofs only[aB,seval]
 · simp only[gW] at h2
   simp [h2]
 · simp only[kJ] at h2
   simp [h1,h2]
abbrev aL4:=zi tI_3 (zi zI_3 (zi a7 (zi tI_23 (zi zI_23 (zi rD (zi tP (zi tQ (zi rU (zi tI_90 (zi zI_90 (zi w6 (zi w7 (zi w8 (zi w9 (zi wR (zi tI_92 (zi zI_92 (zi JK (zi JL H9)))))))))))))))))))
theorem aS0(c:Cl)(left:Int)(st:aA)(h0:0≤left)(h1:left≤1048576):aD prog 69 [bK c,.int .i64 left] st (fun r st'=>r=.int .i64 (iE left (lY c))∧st'=st):=by
 obtain⟨⟨k,n,s,ts⟩,b⟩:=c
 have hg:=fun st=>N3 (.mk k n s ts) left st h0 h1
 simp only[bA] at hg
 simp only[m7,lY]
 generalize (Tm.mk k n s ts).sz=z at hg ⊢
 have hsl:rN b=b.length+aL Tm.sz b:=rfl
 refine wF [1000000] 2 func69 ntmps69 rfl rfl ?_
 intro _
 simp -implicitDefEqProofs only[aB,seval,aL4]
 refine(hg _).to ?_
 simp -implicitDefEqProofs only[aB,seval]
 refine aT (fun h2=>?_) (fun h2=>?_)
 · simp -implicitDefEqProofs only[aB,seval]
   simp only[bM,mN] at h2
   simp only[iE]
   rw[aH (by omega)]
 simp only[cM,mN] at h2
 rw[pA h2]
 simp -implicitDefEqProofs only[aB,seval,aL4]
 refine(WH b _ _ (by omega) (by omega)).to ?_
 simp -implicitDefEqProofs only[aB,seval]
 refine aT (fun h3=>?_) (fun h3=>?_)
 · simp -implicitDefEqProofs only[aB,seval]
   simp only[bM,mN] at h3
   simp only[iE]
   rw[aH (by omega)]
 · simp -implicitDefEqProofs only[aB,seval]
   simp only[cM,mN] at h3
   rw[pA h3,pA (by omega)]
   congr 1
   omega
abbrev RX:=zi tI_23 (zi zI_23 (zi rD (zi tP (zi tQ (zi rU (zi tI_31 (zi zI_31 (zi aR (zi bO (zi bP (zi cF (zi tI_66 (zi zI_66 (zi b9 (zi cA (zi cB (zi cC (zi bZ (zi tI_84 (zi zI_84 (zi lB (zi lC (zi kV (zi tI_90 (zi zI_90 (zi w6 (zi w7 (zi w8 (zi w9 (zi wR (zi tI_92 (zi zI_92 (zi JK (zi JL H9))))))))))))))))))))))))))))))))))
theorem aZS(c:Cl)(st:aA)(hb:lY c≤1048576):aD prog 73 [bK c] st (Made st (bK c)):=by
 obtain⟨⟨k,n,s,ts⟩,bd⟩:=c
 unfold lY at hb
 simp only at hb
 have hc:=fun st=>aKH bd st (by unfold rN;omega)
 have hg:=fun st=>QH (.mk k n s ts) st (by omega)
 simp only[bA] at hg
 simp only[m7]
 refine aD.KH ?_
 refine wF [1000000] 1 func73 ntmps73 rfl rfl ?_
 intro _
 simp -implicitDefEqProofs only[aB,seval,RX]
 intro b hb1 b2 hb2
 have hne:b2≠b:=by rintro rfl;rw[aA.aJ] at hb2;cases hb2
 have hn2:st b2=none:=by rw[aA.aF st _ hne] at hb2;exact hb2
 refine(hg _).mono ?_
 rintro q0 s2 ⟨bs,m1,m2,m3,m4⟩
 rw[←bA] at m3
 obtain⟨q,rfl,m3'⟩:=GI.1 m3
 have hbb:b∉bs:=fun h=>by have:=m2 b h;simp [d8,hne.symm] at this
 have oN:b2∉bs:=fun h=>by have:=m2 b2 h;simp [d8] at this
 have e1:=m4 b hbb
 have e2:=m4 b2 oN
 simp only[d8,hne,hne.symm,dX,cS] at e1 e2
 obtain⟨hqc,hqs,hqa,hqw,hqj⟩:=aV.oY m3'
 simp -implicitDefEqProofs only[aP,e2,hqs,aB,seval,RX]
 refine(hc _).mono ?_
 rintro r s3 ⟨cs,n1,n2,n3,n4⟩
 have PB:b2∉cs:=fun h=>by have:=n2 b2 h;simp [d8] at this
 have hcb:b∉cs:=fun h=>by have:=n2 b h;simp [d8,hne.symm,e1] at this
 have f1:=n4 b hcb
 have f2:=n4 b2 PB
 simp only[d8,hne.symm,dX,cS,e1] at f1 f2
 obtain⟨hrc,hrs,hra,hrw,hrj⟩:=aV.oY n3
 simp -implicitDefEqProofs only[aP,d8,hne.symm,f1,f2,hqs,hrc,hrs,aB,seval,RX]
 have zG:=(aV.fZ _ _ _ m3').2.2
 have nA:∀x∈bs,x∉cs:=fun x hx hx'=>by
  obtain⟨u,e,_⟩:=zG x hx
  have:=n2 x hx'
  have h2:x≠b2:=fun e=>oN (e▸hx)
  simp only[d8,h2,cS] at this
  rw[e] at this;cases this
 have hcs:∀x∈cs,x≠b∧x≠b2:=fun x hx=>⟨fun e=>hcb (e▸hx),fun e=>PB (e▸hx)⟩
 have hbs:∀x∈bs,x≠b∧x≠b2:=fun x hx=>⟨fun e=>hbb (e▸hx),fun e=>oN (e▸hx)⟩
 refine⟨[b,b2],bs++cs,jW.2 ⟨m1,n1,fun x hx y hy e=>nA x hx (e▸hy)⟩,fun x hx=>?_,?_,?_,?_⟩
 · rcases dS.1 hx with hx | hx
   · have:=m2 x hx
     simpa [d8,hbs x hx] using this
   · have:=n2 x hx
     simp only[d8,(hcs x hx).2,cS] at this
     by_cases hxb:x∈bs
     · exact absurd hx (nA x hxb)
     · rw[m4 x hxb] at this
       simpa [d8,hcs x hx] using this
 · simp [hb1,hn2,hbb,oN,hcb,PB]
 · rw[←m7]
   refine QO.2 ⟨q,bs,r,cs,rfl,rfl,aV.aU _ _ _ (fun x hx=>?_) m3',aV.aU _ _ _ (fun x hx=>?_) n3⟩
   · simp only[d8,(hbs x hx).1,(hbs x hx).2,cS]
     rw[n4 x (nA x hx)]
     simp only[d8,(hbs x hx).2,cS]
   · simp only[d8,(hcs x hx).1,(hcs x hx).2,cS]
 · intro x hx hd
   simp only[cQ,dD,dN,kH] at hd
   simp only[dS,kH] at hx
   simp only[d8,hd.1,hd.2,cS]
   rw[n4 x hx.2]
   simp only[d8,hd.2,cS]
   rw[m4 x hx.1]
   simp only[d8,hd.1,hd.2,cS]
theorem aQY(l:List Cl)(st:aA):aD prog 22 [.slice (l.map bK),.slice (l.map bK)] st (fun r st'=>r=.bool true∧st'=st):=by
 refine(aQX l l st fun x _ y st=>aQW x y st).mono ?_
 rintro _ _ ⟨rfl,rfl⟩
 refine⟨?_,rfl⟩
 have:∀l:List Cl,g7 tL l l=true:=by
  intro l
  induction l with
  | nil=>rfl
  | cons x l ih=>simp [g7,aTL,ih]
 rw[this]
abbrev v6 (l:List Cl):Nat:=l.length+aL lY l
theorem aS2(l:List Cl)(left:Int)(st:aA)(h0:0≤left)(h1:left≤1048576):aD prog 15 [.slice (l.map bK),.int .i64 left] st (fun r st'=>r=.int .i64 (iE left (v6 l))∧st'=st):=
 aS1 l left st h0 h1 fun x _ left st h0 h1=>aS0 x left st h0 h1
theorem aZU(l:List Cl)(st:aA)(hb:v6 l≤1048576):aD prog 18 [.slice (l.map bK)] st (Made st (.slice (l.map bK))):=
 aZT l st (by unfold v6 at hb;omega) fun x hx st=>aZS x st (by have:=qF (f:=lY) hx;unfold v6 at hb;omega)
theorem aTJ(c:Cl):qY c≤3+3*lY c:=by
 obtain⟨⟨k,n,s,ts⟩,b⟩:=c
 have h1:=Tm.aJ7 (.mk k n s ts)
 have h2:=aJ8 b
 rw[Tm.GF] at h1
 rw[N9]
 have hsl:rN b=b.length+aL Tm.sz b:=rfl
 have hcs:lY (.mk k n s ts,b)=(Tm.mk k n s ts).sz+(b.length+aL Tm.sz b):=rfl
 omega
theorem WS:∀l:List Cl,aL qY l≤3*v6 l
 | []=>by simp [aL]
 | x::l=>by
  have h1:=aTJ x
  have h2:=WS l
  simp only[aL,v6,a8] at h2 ⊢
  omega
abbrev RY:=zi tI_3 (zi zI_3 (zi a7 (zi tI_9 (zi zI_9 (zi d9 (zi tI_29 (zi zI_29 (zi eP (zi gO (zi gP (zi gV (zi tI_31 (zi zI_31 (zi aR (zi bO (zi bP (zi cF (zi tI_66 (zi zI_66 (zi b9 (zi cA (zi cB (zi cC (zi bZ (zi tI_84 (zi zI_84 (zi lB (zi lC kV))))))))))))))))))))))))))))
theorem aSF(l:List Cl)(j:Int)(o:AV)(bs:List Nat)(st:aA)(hO:aV st (.slice (l.map bK)) o bs)(hnd:bs.Nodup)(hj0:0≤j)(hj1:j+aL qY l≤1099511627776) :
 aD prog 24 [o,.int .i64 j] st (HN st (.slice ((fW BY qY l j).map bK)) o bs (j+aL qY l)):=by
 obtain⟨hlen,haL⟩:=hO.len
 rw[aE] at hlen
 have haL:=haL prog 29 _ gV
 rw[aE] at haL
 refine wF [1000000] 2 func24 ntmps24 rfl rfl ?_
 simp only[dK]
 intro ⟨hf,_⟩
 have hl:=hlen hf
 clear hf hlen
 simp -implicitDefEqProofs only[aB,seval]
 refine dL (σ:=List Cl×Int×aA) [1000000] [0,4] l
  (fun i p=>p.1.length=i∧p.1++fW BY qY (l.drop i) p.2.1=fW BY qY l j∧0≤p.2.1∧p.2.1+aL qY (l.drop i)=j+aL qY l∧aV p.2.2 (.slice ((p.1++l.drop i).map bK)) o bs∧∀q,q∉bs→p.2.2 q=st q)
  (fun i p=>[(1,.int .i64 p.2.1),(5,.int .i64 i)]) (fun _ p=>p.2.2) (by decide +kernel)
  ⟨([],j,st),⟨rfl,rfl,hj0,rfl,hO,fun _ _=>rfl⟩,aN.mk (by simp -implicitDefEqProofs only[aB,↓aY,seval])⟩ (fun i x p hx hlt bB hdr hinv=>?_) (fun p hge hinv=>?_)
 case refine_2=>
  obtain⟨done,k,s⟩:=p
  obtain⟨i1,i2,i3,i4,i5,i6⟩:=hinv
  simp only at i1 i2 i3 i4 i5 i6
  simp -implicitDefEqProofs only[haL,hge,aB,seval]
  simp only[gT,fW,fA,aL] at i2 i4 i5
  exact⟨by rw[←i4];simp,by rw[←i2];exact i5,i6⟩
 obtain⟨done,k,s⟩:=p
 obtain⟨i1,i2,i3,i4,i5,i6⟩:=hinv
 simp only at i1 i2 i3 i4 i5 i6
 rw[hdr] at i2 i4 i5
 obtain⟨⟨xk,xn,xs,xts⟩,xb⟩:=x
 simp only[aL,N9] at i4
 have lZ:=GB (av:=bK) (done:=done) (x:=(.mk xk xn xs xts,xb)) (rest:=l.drop (i+1))
 obtain⟨b,bs',w,A,oe,bo,B,rfl,hbs,hsb,hA,hoe,hbo,hbn,jR,hw,hi,oO⟩:=i5.focus hnd lZ
 rw[gA] at hw
 subst hw
 rw[i1] at hA
 obtain⟨q,b1,q',b2,rfl,rfl,hq,hq'⟩:=QO.1 hoe
 rw[jW] at hbo
 obtain⟨aVW,aVX,nA⟩:=hbo
 simp only[dS,kH] at hbn
 have vI:((done++((Tm.mk xk xn xs xts,xb):Cl)::l.drop (i+1)).map bK).length=l.length:=by
  rw[aE,dP,a8,nH,i1];omega
 rw[vI] at haL oO ⊢
 have hat:=kE (P:=prog) (b:=b) (len:=l.length) (w:=5) (i:=i) eP hlt
 have hw1:=bG (n:=k+1)
 have hw2:=bG (n:=k+1+1)
 have hw3:=bG (n:=k+1+1+1)
 have hw4:=bG (n:=(i:Int)+1)
 obtain⟨e1,e2,e3,e4,e5,e6⟩:=xK (B:=B) hA
 simp -implicitDefEqProofs only[haL,bB,hat,hsb,hw1,hw2,e1,e2,e4,e5,oA,wG,A7,eA,aB,seval,RY]
 refine(NX (k+1+1) _ (by omega)).to ?_
 simp -implicitDefEqProofs only[hat,e1,e2,e3,oA,wG,A7,eA,hw3,aB,seval,RY]
 have hqs:∀(o:AO),aV (s.aC b o) (.slice (xts.map Tm.av)) q b1:=fun o=>aV.aU _ _ _ (fun x hx=>aA.aF _ _ (fun e=>hbn.1 (e▸hx))) hq
 have hqa:q.isAgg=false:=(aV.shape hq).1
 have aXF:q'.isAgg=false:=(aV.shape hq').1
 simp -implicitDefEqProofs only[hqa,aB,seval]
 refine(EU xts (k+1+1+1) q b1 _ (hqs _) aVW (by omega) (by omega)).mono ?_
 rintro _ s2 ⟨rfl,hq2,hk2⟩
 have f1:=hk2 b hbn.1
 rw[aA.aJ] at f1
 simp -implicitDefEqProofs only[hat,f1,e3,aXF,aB,seval,RY]
 have aXG:aV s2 (.slice (xb.map Tm.av)) q' b2:=aV.aU _ _ _ (fun x hx=>by
  have hxb:x≠b:=fun e=>hbn.2 (e▸hx)
  rw[hk2 x (fun h=>nA x h x hx rfl),aA.aF _ _ hxb]) hq'
 refine(EU xb _ q' b2 _ aXG aVX (by omega) (by omega)).mono ?_
 rintro _ s3 ⟨rfl,hq3,hk3⟩
 have hm:k+((3+aL Tm.dG xts+aL Tm.dG xb:Nat):Int)=k+1+1+1+(aL Tm.dG xts:Int)+(aL Tm.dG xb:Int):=by omega
 simp -implicitDefEqProofs only[hw4,aB,seval]
 refine⟨(done++ [BY (.mk xk xn xs xts,xb) k],k+1+1+1+(aL Tm.dG xts:Int)+(aL Tm.dG xb:Int),s3),⟨?_,?_,?_,?_,?_,?_⟩,aN.mk (by simp -implicitDefEqProofs only[aB,seval])⟩
 · simp [i1]
 · simp only[fW,N9] at i2
   rw[hm] at i2
   rw[←i2]
   simp
 · simp only;omega
 · simp only;omega
 · have:=oO s3 (bK (BY (.mk xk xn xs xts,xb) k)) (.agg [.int .i64 k,.int .i64 (k+1),.str (mt (k+1+1)),q,q']) (gA _)
    (fun x hx hxb hxo=>by
     simp only[dS,kH] at hxo
     rw[hk3 x hxo.2,hk2 x hxo.1,aA.aF _ _ hxb])
    (by rw[hk3 b hbn.2,f1];try rfl)
    (by
     unfold BY
     exact QO.2 ⟨q,b1,q',b2,rfl,rfl,aV.aU _ _ _ (fun x hx=>hk3 x (fun h=>nA x hx x h rfl)) hq2,hq3⟩)
   rw[GC] at this
   exact this
 · intro x hx
   have hxb:x≠b:=fun e=>hx (by rw[hbs];simp [e])
   have hx1:x∉b1:=fun e=>hx (jR x (by simp [e]))
   have hx2:x∉b2:=fun e=>hx (jR x (by simp [e]))
   show s3 x=st x
   rw[hk3 x hx2,hk2 x hx1,aA.aF _ _ hxb,i6 x hx]
theorem iO(s:Ss):(aX s).width=6:=rfl
theorem K3(s:Ss):(aX s).cells.all AV.storable=true:=rfl
theorem RK(s:Ss):(aX s).cD=false:=rfl
theorem AB(s:Ss):(aX s).isAgg=true:=rfl
abbrev R6:=zi tI_3 (zi zI_3 (zi a7 (zi tI_4 (zi zI_4 (zi cL (zi tI_29 (zi zI_29 (zi eP (zi gO (zi gP (zi gV (zi tI_31 (zi zI_31 (zi aR (zi bO (zi bP (zi cF (zi tI_62 (zi zI_62 (zi kX (zi kY (zi kZ (zi k8 (zi k9 (zi lA kU)))))))))))))))))))))))))
theorem aQZ(s:Ss)(st:aA):aD prog 92 [aX s,aX s] st (fun r st'=>r=.bool true∧st'=st):=by
 obtain⟨p,q,i0,i1,i2,i3⟩:=s
 simp only[aX]
 refine wF [1000000] 2 func92 ntmps92 rfl rfl ?_
 intro _
 simp -implicitDefEqProofs only[aB,seval,R6]
 refine(aQY p _).to ?_
 simp -implicitDefEqProofs only[aB,seval,R6]
 refine(aQ1 q _).to ?_
 simp -implicitDefEqProofs only[gL,aB,seval,R6]
def K4(s:Ss):Nat:=aL qY s.p+aL Tm.dG s.q
end Go.AW
namespace Go.AW
def zL:AV→Bool
 | .int _ _ | .bool _ | .str _=>true
 | _=>false
theorem aKS{st:aA}{a o:AV}{bs:List Nat}(h:zL a=true):aV st a o bs↔o=a∧bs= []:=by
 cases a<;>simp [zL] at h<;>simp [aV]
theorem aZ5{st:aA}{a:AV}{es os:List AV}{bs:List Nat}(h:zL a=true):aW st (a::es) os bs↔∃os',os=a::os'∧aW st es os' bs:=by
 simp only[aW]
 constructor
 · rintro⟨o,os',b1,b2,rfl,rfl,x1,x2⟩
   obtain⟨rfl,rfl⟩:=(aKS h).1 x1
   exact⟨os',rfl,x2⟩
 · rintro⟨os',rfl,x⟩
   exact⟨a,os',[],bs,rfl,rfl,(aKS h).2 ⟨rfl,rfl⟩,x⟩
def AL:List AV→List AV→List AV
 | [],_=>[]
 | a::es,qs=>if zL a then a::AL es qs else match qs with
  | q::qs=>q::AL es qs
  | []=>[]
theorem C6{st:aA}:∀ {es os:List AV} {bs:List Nat},aW st es os bs↔∃qs,os=AL es qs∧aW st (es.filter fun a=> !zL a) qs bs
 | [],os,bs=>by
  simp only[aW,AL,List.filter_nil]
  constructor
  · rintro⟨rfl,rfl⟩;exact⟨[],rfl,rfl,rfl⟩
  · rintro⟨qs,rfl,rfl,rfl⟩;exact⟨rfl,rfl⟩
 | a::es,os,bs=>by
  cases h:zL a with
  | true=>
   rw[aZ5 h]
   simp only[AL,h,List.filter_cons,mC,jF,cS,dX]
   constructor
   · rintro⟨os',rfl,x⟩
     obtain⟨qs,rfl,y⟩:=C6.1 x
     exact⟨qs,rfl,y⟩
   · rintro⟨qs,rfl,y⟩
     exact⟨_,rfl,C6.2 ⟨qs,rfl,y⟩⟩
  | false=>
   simp only[AL,h,List.filter_cons,uI,jF,cS,dX,aW]
   constructor
   · rintro⟨o,os',b1,b2,rfl,rfl,x1,x2⟩
     obtain⟨qs,rfl,y⟩:=C6.1 x2
     exact⟨o::qs,rfl,o,qs,b1,b2,rfl,rfl,x1,y⟩
   · rintro⟨qs,rfl,o,os',b1,b2,rfl,rfl,x1,y⟩
     exact⟨o,_,b1,b2,rfl,rfl,x1,C6.2 ⟨os',rfl,y⟩⟩
theorem aZ9{st:aA}{cs:List AV}{o:AV}{bs:List Nat}:aV st (.agg cs) o bs↔∃qs,o=.agg (AL cs qs)∧aW st (cs.filter fun a=> !zL a) qs bs:=by
 simp only[aV]
 constructor
 · rintro⟨os,rfl,x⟩
   obtain⟨qs,rfl,y⟩:=C6.1 x
   exact⟨qs,rfl,y⟩
 · rintro⟨qs,rfl,y⟩
   exact⟨_,rfl,C6.2 ⟨qs,rfl,y⟩⟩
def aJN:AV→Bool
 | .slice _=>true
 | _=>false
def One(q:AV):Prop:=q.cells= [q]∧q.storable=true∧q.isAgg=false∧q.width=1∧q.cD=false
theorem aW.QM{st:aA}:∀ {es os:List AV} {bs:List Nat},aW st es os bs→es.all aJN=true→∀q∈os,One q
 | [],os,bs,x,_=>by simp only[aW] at x;rw[x.1];simp
 | a::es,os,bs,x,h=>by
  simp only[aW] at x
  obtain⟨o,os',b1,b2,rfl,rfl,x1,x2⟩:=x
  simp only[jI,cT] at h
  intro q hq
  rcases cQ.1 hq with rfl | hq
  · cases a<;>simp [aJN] at h
    exact aV.oY x1
  · exact aW.QM x2 h.2 q hq
structure n8 (st:aA) (ds:List Nat) (es os:List AV) (bs:List Nat) (s:aA):Prop where
 nd:bs.Nodup
 fresh:∀b∈bs,st b=none
 apart:∀d∈ds,st d=none∧d∉bs∧s d≠none
 own:aW s es os bs
 aU:∀x,x∉bs→x∉ds→s x=st x
theorem n8.start{st:aA}{ds:List Nat}{s:aA}(h1:∀d∈ds,st d=none∧s d≠none)(h2:∀x,x∉ds→s x=st x):n8 st ds [] [] [] s:=
 ⟨lS,by simp,fun d hd=>⟨(h1 d hd).1,by simp,(h1 d hd).2⟩,⟨rfl,rfl⟩,fun x _ h=>h2 x h⟩
theorem n8.aC{st:aA}{ds:List Nat}{es os:List AV}{bs:List Nat}{s:aA}(c:n8 st ds es os bs s){d:Nat}(hd:d∈ds)(o:AO):n8 st ds es os bs (s.aC d o):=by
 refine⟨c.nd,c.fresh,fun e he=>⟨(c.apart e he).1,(c.apart e he).2.1,?_⟩,aW.aU _ _ _ (fun b hb=>aA.aF _ _ (fun e=>(c.apart d hd).2.1 (e▸hb))) c.own,fun x h1 h2=>?_⟩
 · by_cases h:e=d
   · subst h;rw[aA.aJ];simp
   · rw[aA.aF _ _ h];exact(c.apart e he).2.2
 · have hx:x≠d:=by rintro rfl;exact h2 hd
   rw[aA.aF _ _ hx];exact c.aU x h1 h2
theorem n8.made{st:aA}{ds:List Nat}{es os:List AV}{bs:List Nat}{s s':aA}{a r:AV}(c:n8 st ds es os bs s)(m:Made s a r s'):(∀d∈ds,s' d=s d)∧∃bs',n8 st ds (es++ [a]) (os++ [r]) bs' s':=by
 obtain⟨b2,m1,m2,m3,m4⟩:=m
 have hb:∀b∈bs,b∉b2:=fun b hb hb'=>by
  obtain⟨cs,e,_⟩:=(aW.fZ _ _ _ c.own).2 b hb
  rw[m2 b hb'] at e;cases e
 have hd:∀d∈ds,d∉b2:=fun d hd hd'=>(c.apart d hd).2.2 (m2 d hd')
 have hf:∀b∈b2,st b=none:=fun b h2=>by
  have h1:b∉bs:=fun h=>hb b h h2
  have h3:b∉ds:=fun h=>hd b h h2
  rw[←c.aU b h1 h3];exact m2 b h2
 refine⟨fun d h=>m4 d (hd d h),bs++b2,jW.2 ⟨c.nd,m1,fun x hx y hy e=>hb x hx (e▸hy)⟩,fun b h=>?_,fun d h=>⟨(c.apart d h).1,?_,?_⟩,?_,fun x h1 h2=>?_⟩
 · rcases dS.1 h with h | h
   · exact c.fresh b h
   · exact hf b h
 · simp only[dS,kH];exact⟨(c.apart d h).2.1,hd d h⟩
 · rw[m4 d (hd d h)];exact(c.apart d h).2.2
 · exact aW.snoc c.own (fun b h=>m4 b (hb b h)) m3
 · simp only[dS,kH] at h1
   rw[m4 x h1.2,c.aU x h1.1 h2]
theorem n8.done{st:aA}{ds:List Nat}{es os:List AV}{bs:List Nat}{s:aA}(c:n8 st ds es os bs s){a r:AV}(h:aW s es os bs→aV s a r bs):∃ds,TK st ds a r s:=
 ⟨ds,bs,c.nd,c.fresh,fun d hd=>⟨(c.apart d hd).1,(c.apart d hd).2.1⟩,h c.own,fun b h1 h2=>c.aU b h1 h2⟩
theorem n8.two{st:aA}{b b2:Nat}{o o2:AO}(hb:st b=none)(hb2:(st.aC b o) b2=none):b2≠b∧n8 st [b,b2] [] [] [] ((st.aC b o).aC b2 o2):=by
 have hne:b2≠b:=by rintro rfl;rw[aA.aJ] at hb2;cases hb2
 have hn2:st b2=none:=by rw[aA.aF st _ hne] at hb2;exact hb2
 refine⟨hne,n8.start (fun d hd=>?_) (fun x hx=>?_)⟩
 · simp only[cQ,dD,dN] at hd
   rcases hd with rfl | rfl
   · exact⟨hb,by rw[aA.aF _ _ (dF hne),aA.aJ];simp⟩
   · exact⟨hn2,by rw[aA.aJ];simp⟩
 · simp only[cQ,dD,dN,kH] at hx
   rw[aA.aF _ _ hx.2,aA.aF _ _ hx.1]
abbrev Fr:=Int×ByteArray
structure Clt where
 rest:List Bt
 brk:Bool
 wait:List Fr
 prog:List Cl
 act:Bool
 ses:Ss
 told:Bool
 out:List Fr
structure Sv where
 cs:List Clt
 dO:Int
def lE(s:Ss):Nat:=v6 s.p+rN s.q
end Go.AW
namespace Go.AW
open Go.Proofs.Tryz

abbrev aL7:=zi tI_3 (zi zI_3 (zi a7 (zi tI_22 (zi zI_22 (zi B2 (zi I1 (zi I5 (zi HC (zi tI_23 (zi zI_23 (zi rD (zi tP (zi tQ (zi rU (zi tI_105 (zi zI_105 (zi JE (zi JF (zi JG (zi JH (zi JI (zi JJ H8))))))))))))))))))))))
theorem aS3(s:Ss)(left:Int)(st:aA)(h0:0≤left)(h1:left≤1048576):aD prog 82 [aX s,.int .i64 left] st (fun r' st'=>r'=.int .i64 (iE left (lE s))∧st'=st):=by
 obtain⟨p,q,i0,i1,i2,i3⟩:=s
 simp only[aX,lE]
 generalize hp:v6 p=np
 generalize hq:rN q=nq
 refine wF [1000000] 2 func82 ntmps82 rfl rfl ?_
 intro _
 simp -implicitDefEqProofs only[aB,seval,aL7]
 have hcp:=fun st=>aS2 p left st h0 h1
 rw[hp] at hcp
 refine(hcp _).to ?_
 simp -implicitDefEqProofs only[aB,seval]
 refine aT (fun h2=>?_) (fun h2=>?_)
 · simp -implicitDefEqProofs only[aB,seval]
   simp only[bM,mN] at h2
   simp only[iE]
   rw[aH (by skip;omega)]
 simp only[cM,mN] at h2
 rw[pA h2]
 simp -implicitDefEqProofs only[aB,seval,aL7]
 have hcq:=fun st=>WH q (left - (np:Int)) st (by omega) (by omega)
 rw[hq] at hcq
 refine(hcq _).to ?_
 simp -implicitDefEqProofs only[aB,seval]
 refine aT (fun h3=>?_) (fun h3=>?_)
 · simp -implicitDefEqProofs only[aB,seval]
   simp only[bM,mN] at h3
   simp only[iE]
   rw[aH (by skip;omega)]
 simp only[cM,mN] at h3
 rw[pA h3]
 simp -implicitDefEqProofs only[aB,seval]
 rw[pA (by omega)]
 congr 1
 omega
abbrev R7:=zi tI_3 (zi zI_3 (zi a7 (zi tI_22 (zi zI_22 (zi B2 (zi I1 (zi I5 (zi HC (zi tI_23 (zi zI_23 (zi rD (zi tP (zi tQ (zi rU (zi tI_29 (zi zI_29 (zi eP (zi gO (zi gP (zi gV (zi tI_31 (zi zI_31 (zi aR (zi bO (zi bP (zi cF (zi tI_62 (zi zI_62 (zi kX (zi kY (zi kZ (zi k8 (zi k9 (zi lA (zi kU (zi tI_105 (zi zI_105 (zi JE (zi JF (zi JG (zi JH (zi JI (zi JJ H8)))))))))))))))))))))))))))))))))))))))))))
theorem aZV(s:Ss)(st:aA)(hb:lE s≤1048576):aD prog 86 [aX s] st (Made st (aX s)):=by
 obtain⟨p,q,i0,i1,i2,i3⟩:=s
 unfold lE at hb
 simp only at hb
 simp only[aX]
 refine aD.KH ?_
 refine wF [1000000] 1 func86 ntmps86 rfl rfl ?_
 intro _
 simp -implicitDefEqProofs only[aB,seval,R7]
 intro b hb1 b2 hb2
 obtain⟨hne,C0⟩:=n8.two hb1 hb2
 refine(aZU p _ (by omega)).mono ?_
 rintro q0 s1 m1
 obtain⟨k1,bs1,C1⟩:=C0.made m1
 have e1:=k1 b (by simp)
 have e2:=k1 b2 (by simp)
 simp only[d8,hne,hne.symm,dX,cS] at e1 e2
 obtain⟨hqc,hqs,hqa,hqw,hqj⟩:=C1.own.QM rfl q0 (by simp)
 simp -implicitDefEqProofs only[aP,e2,hqc,hqs,aB,seval,R7]
 refine(aKH q _ (by omega)).mono ?_
 rintro q1 s2 m2
 obtain⟨k2,bs2,C2⟩:=(C1.aC (d:=b2) (by simp) _).made m2
 have f1:=k2 b (by simp)
 have f2:=k2 b2 (by simp)
 simp only[d8,hne.symm,dX,cS,e1,e2] at f1 f2
 obtain⟨hrc,hrs,hra,hrw,hrj⟩:=C2.own.QM rfl q1 (by simp)
 simp -implicitDefEqProofs only[eA,aP,d8,hne.symm,f1,f2,hqs,hrc,hrs,aB,seval,R7]
 refine((C2.aC (d:=b2) (by simp) _).aC (d:=b) (by simp) _).done fun h=>?_
 exact aZ9.2 ⟨_,rfl,h⟩
noncomputable def dV(s:Ss)(u:Int):List (List Tm)×Int:=
 ((gG s.p (fun _ l=>l) s.q 20 u).1,if(gG s.p (fun _ l=>l) s.q 20 u).2=2∧u<s.dO then -1 else(gG s.p (fun _ l=>l) s.q 20 u).2)
noncomputable def tU(s:Ss):List (List Tm)×Int:=dV s s.used
def vY(s:Ss):Bool:=nV s.p&&(mM s.q&&(decide (0≤s.dO)&&(decide (s.dO≤300)&&(decide (0≤s.used)&&decide (s.used≤s.dO)))))
def GX(s:Ss):Bool:=decide (s.used=0)&&(decide (s.sent=0)&&decide (s.fin= -1))
noncomputable def fK(s:Ss):Bool:=vY s&&(GX s||(decide (s.sent=((tU s).1.length:Int))&&decide (s.fin=(tU s).2)))
theorem RL{s:Ss}(h:vY s=true):kI s.p s.q 20 s.used=true:=by
 simp only[vY,cT,bM] at h
 obtain⟨h1,h2,h3,h4,h5,h6⟩:=h
 simp only[kI,h1,h2,iY]
 rw[tN h5,tN (show s.used≤300 by omega)]
 decide
abbrev aMS:=zi tI_3 (zi zI_3 (zi a7 (zi tI_26 (zi zI_26 (zi gC (zi kM (zi kN (zi mA (zi tI_29 (zi zI_29 (zi eP (zi gO (zi gP (zi gV (zi tI_31 (zi zI_31 (zi aR (zi bO (zi bP (zi cF (zi tI_62 (zi zI_62 (zi kX (zi kY (zi kZ (zi k8 (zi k9 (zi lA kU))))))))))))))))))))))))))))
theorem VP(s:Ss)(u:Int)(h:kI s.p s.q 20 u=true)(st:aA):aD prog 167 [aX s,.int .i64 u] st (fun r st'=>r=.tup [.slice ((dV s u).1.map bJ),.int .i64 (dV s u).2]∧st'=st):=by
 have hok:=h
 simp only[kI,cT,bM] at h
 obtain⟨kp,kq,_,_,k3,k4⟩:=h
 obtain⟨p1,p2⟩:=QV kp
 obtain⟨q1,q2⟩:=QX kq
 have hr:=aSB p2 p1 q2 q1 (most:=20) (fuel:=u.toNat) (by omega) (by omega)
 rw[show((20:Nat):Int)=20 from rfl,show((u.toNat:Nat):Int)=u by omega] at hr
 have hs:gG s.p (fun _ l=>l) s.q 20 u=uC s.p (fun _ l=>l) s.q 20 u.toNat:=by
  unfold gG
  rw[aH hok]
  try rfl
 rw[←hs] at hr
 unfold dV
 generalize gG s.p (fun _ l=>l) s.q 20 u=T at *
 obtain⟨L,e⟩:=T
 simp only at hr ⊢
 obtain⟨p,q,i0,i1,i2,i3⟩:=s
 simp only[aX] at *
 refine wF [1000000] 2 func167 ntmps167 rfl rfl ?_
 intro _
 simp -implicitDefEqProofs only[aB,seval,aMS]
 refine(hr _).to ?_
 repeat' (first
  | (simp -implicitDefEqProofs only[*,aB,seval,aMS])
  | (refine cU (fun h=>?_) (fun h=>?_))
  | (refine aT (fun h=>?_) (fun h=>?_)))
 all_goals simp_all
theorem aRH(s:Ss)(h:vY s=true)(st:aA):aD prog 167 [aX s,.int .i64 s.used] st (fun r st'=>r=.tup [.slice ((tU s).1.map bJ),.int .i64 (tU s).2]∧st'=st):=VP s s.used (RL h) st
abbrev aMU:=zi tI_3 (zi zI_3 (zi a7 (zi tI_4 (zi zI_4 (zi cL (zi tI_26 (zi zI_26 (zi gC (zi kM (zi kN (zi mA (zi tI_29 (zi zI_29 (zi eP (zi gO (zi gP (zi gV (zi tI_31 (zi zI_31 (zi aR (zi bO (zi bP (zi cF (zi tI_62 (zi zI_62 (zi kX (zi kY (zi kZ (zi k8 (zi k9 (zi lA kU)))))))))))))))))))))))))))))))
theorem aSX(s:Ss)(st:aA):aD prog 84 [aX s] st (fun r st'=>r=.bool (fK s)∧st'=st):=by
 have ha:=aRH s
 unfold fK
 generalize tU s=T at *
 obtain⟨L,e⟩:=T
 obtain⟨p,q,i0,i1,i2,i3⟩:=s
 simp only[aX,vY,GX] at *
 refine aD.done ?_
 refine wF [1000000] 1 func84 ntmps84 rfl rfl ?_
 intro _
 simp -implicitDefEqProofs only[aB,seval,aMU]
 repeat' (first
  | (simp -implicitDefEqProofs only[*,aE,aB,seval,aMU])
  | (refine cU (fun h=>?_) (fun h=>?_))
  | (refine(aSU p _).to ?_) | (refine(aSV q _).to ?_) | (refine(ha (by simp_all) _).to ?_)
  | (refine aT (fun h=>?_) (fun h=>?_)))
 all_goals (refine⟨?_,aM.refl _⟩;simp only[AV.soft];first | (simp_all;done) | (simp_all;intros;omega))
abbrev aMT:=zi tI_3 (zi zI_3 (zi a7 (zi tI_26 (zi zI_26 (zi gC (zi kM (zi kN (zi mA (zi tI_29 (zi zI_29 (zi eP (zi gO (zi gP (zi gV (zi tI_31 (zi zI_31 (zi aR (zi bO (zi bP (zi cF (zi tI_62 (zi zI_62 (zi kX (zi kY (zi kZ (zi k8 (zi k9 (zi lA kU))))))))))))))))))))))))))))
theorem VB(s:Ss)(u:Int)(st:aA):aD prog 171 [aX s,.int .i64 u] st (MU st ((dV s u).1.map bJ) (dV s u).2):=by
 have hr:=aRE s.p s.q 20 u
 unfold dV
 generalize gG s.p (fun _ l=>l) s.q 20 u=T at *
 obtain⟨L,e⟩:=T
 simp only at hr ⊢
 obtain⟨p,q,i0,i1,i2,i3⟩:=s
 simp only[aX] at *
 refine wF [1000000] 2 func171 ntmps171 rfl rfl ?_
 intro _
 simp -implicitDefEqProofs only[aB,seval,aMT]
 refine(hr _).mono ?_
 intro r s1 h
 obtain⟨o,rfl,hM,hN⟩:=h
 obtain⟨hqc,hqs,hqa,hqw,hqj⟩:=aV.oY hM.choose_spec.2.2.1
 repeat' (first
  | (simp -implicitDefEqProofs only[*,aB,seval,aMT])
  | (refine cU (fun h=>?_) (fun h=>?_))
  | (refine aT (fun h=>?_) (fun h=>?_)))
 all_goals exact⟨o,by simp_all,hM,hN⟩
theorem aQ5(s:Ss)(u:Int)(st:aA):aD prog 171 [aX s,.int .i64 u] st (qN st [.slice ((dV s u).1.map bJ),.int .i64 (dV s u).2]):=
 (VB s u st).mono fun _ _ ⟨o,h1,h2,_⟩=>by subst h1;exact qN.aZX h2
theorem aQ4(s:Ss)(k:Int)(st:aA):aD prog 171 [aX s,.int .i64 s.used] st (qN st [.slice ((tU s).1.map bJ),.int .i64 (tU s).2]):=aQ5 s s.used st
abbrev aMV:=zi tI_3 (zi zI_3 (zi a7 (zi tI_4 (zi zI_4 (zi cL (zi tI_26 (zi zI_26 (zi gC (zi kM (zi kN (zi mA (zi tI_29 (zi zI_29 (zi eP (zi gO (zi gP (zi gV (zi tI_31 (zi zI_31 (zi aR (zi bO (zi bP (zi cF (zi tI_62 (zi zI_62 (zi kX (zi kY (zi kZ (zi k8 (zi k9 (zi lA (zi kU (zi tI_300 (zi zI_300 (zi aUW (zi aUX (zi aUY (zi aUZ (zi aU0 aPS)))))))))))))))))))))))))))))))))))))))
theorem aRD(s:Ss)(st:aA):aD prog 89 [aX s] st (fun r st'=>r=.bool (fK s)∧st'=st):=by
 have ha:=fun st=>(aQ4 s 0 st).aJW
 unfold fK
 generalize tU s=T at *
 obtain⟨L,e⟩:=T
 obtain⟨p,q,i0,i1,i2,i3⟩:=s
 simp only[aX,vY,GX] at *
 refine aD.done ?_
 refine wF [1000000] 1 func89 ntmps89 rfl rfl ?_
 intro _
 simp -implicitDefEqProofs only[aB,seval,aMV]
 repeat' (first
  | (simp -implicitDefEqProofs only[*,aE,aB,seval,aMV])
  | (refine cU (fun h=>?_) (fun h=>?_))
  | (refine(VH p _).to ?_) | (refine(VI q _).to ?_) | (refine(yS _ _ _ _).to ?_) | (refine(ha _).to ?_)
  | (refine aT (fun h=>?_) (fun h=>?_)))
 all_goals (refine⟨?_,aM.refl _⟩;simp only[AV.soft];first | (simp_all;done) | (simp_all;intros;omega))
def fX(s:Ss)(n:Int):Int:=if n<s.dO - s.used then s.used+n else s.dO
noncomputable def m6(s:Ss)(n:Int):Ss:={ s with used:=fX s n,sent:=((dV s (fX s n)).1.length:Int),fin:=(dV s (fX s n)).2 }
noncomputable def oW(s:Ss)(n:Int):List (List Tm):=(dV s (fX s n)).1.drop s.sent.toNat
noncomputable def uY(s:Ss)(n:Int):Bool:=fK s&&(decide (0≤n)&&decide (s.fin= -1))
noncomputable def kA(s:Ss)(n:Int):Ss×List (List Tm):=if uY s n=true then(m6 s n,oW s n) else(s,[])
structure SlF (s:Ss) (n:Int):Prop where
 rng:vY s=true
 ok:kI s.p s.q 20 (fX s n)=true
 u0:0≤s.used
 u1:s.used≤fX s n
 u2:fX s n≤s.dO
 q1:s.dO≤300
 s0:0≤s.sent
 s1:s.sent≤((dV s (fX s n)).1.length:Int)
 l:(dV s (fX s n)).1.length≤20
 nxt:fK (m6 s n)=true
theorem K5{s:Ss}:vY s=true↔nV s.p=true∧mM s.q=true∧0≤s.dO∧s.dO≤300∧0≤s.used∧s.used≤s.dO:=by
 simp only[vY,cT,bM]
theorem vZ{s:Ss}{n:Int}(h:fK s=true)(hn:0≤n):SlF s n:=by
 have h':=h
 simp only[fK,cT] at h'
 obtain⟨hr,hs⟩:=h'
 obtain⟨kp,kq,k1,k2,k3,k4⟩:=K5.1 hr
 have hu1:s.used≤fX s n:=by unfold fX;split<;>omega
 have hu2:fX s n≤s.dO:=by unfold fX;split<;>omega
 have aW9:kI s.p s.q 20 s.used=true:=RL hr
 have hok:kI s.p s.q 20 (fX s n)=true:=K2.2 ⟨kp,kq,by omega,by omega,by omega,by omega⟩
 have hl:=a1X (cnd:=fun _ l=>l) hok
 have J7:=(OQ (cnd:=fun _ l=>l) aW9 hu1 (by omega)).2.length_le
 have aI6:0≤s.sent∧s.sent≤((dV s (fX s n)).1.length:Int):=by
  simp only[n7,GX,cT,bM] at hs
  rcases hs with ⟨_,h2,_⟩ | ⟨h1,_⟩
  · omega
  · simp only[tU,dV] at h1 ⊢
    omega
 refine⟨hr,hok,k3,hu1,hu2,k2,aI6.1,aI6.2,by simp only[dV];omega,?_⟩
 simp only[fK,cT]
 refine⟨K5.2 ⟨kp,kq,k1,k2,?_,hu2⟩,?_⟩
 · show 0≤fX s n
   omega
 · rw[n7]
   exact .inr (by rw[cT];exact⟨tN rfl,tN rfl⟩)
theorem aOM{P:Program}{t:TypeId}{ag:Bool}{w:Nat}{φ:AF}{y:Operand}{L:List AV}{n:Nat}(hI:eI P t=some (ag,w))(hn:n≤L.length)(hw:∀e∈L,e.width=w)(h:φ.eval y=.int .i64 (n:Int)):fD P φ t (.slice L) (some y) none none=some (.slice (L.drop n)):=by
 have h1:dB φ none L.length L.length=some L.length:=rfl
 have h3:dB φ (some y) 0 L.length=some n:=by
  simp only[dB,h]
  rw[aH ⟨by omega,by omega⟩]
  rw[jV]
 have hwd:uH L n w=true:=by
  unfold uH
  split
  · rename_i e he
    simp [hw e (cG he)]
  · rfl
 unfold fD mF
 rw[aG (by simp [nT])]
 simp only[hI,h1,h3,hwd]
 simp
theorem NF(l:List (List Tm)):∀e∈l.map bJ,e.width=1:=by intro e h;simp only[bY] at h;obtain⟨t,_,rfl⟩:=h;rfl
theorem aO8(l:List (List Tm)):∀e∈l.map bJ,e.cD=false:=by intro e h;simp only[bY] at h;obtain⟨t,_,rfl⟩:=h;rfl
abbrev xT:=zi tI_3 (zi zI_3 (zi a7 (zi tI_26 (zi zI_26 (zi gC (zi kM (zi kN (zi mA (zi tI_62 (zi zI_62 (zi kX (zi kY (zi kZ (zi k8 (zi k9 (zi lA kU))))))))))))))))
set_option maxHeartbeats 2000000 in
theorem aRJ(s:Ss)(n:Int)(h:fK s=true)(hn:0≤n)(st:aA):aD prog 168 [aX s,.int .i64 n] st (fun r st'=>r=.tup [aX (m6 s n),.slice ((oW s n).map bJ)]∧st'=st):=by
 have hF:=vZ h hn
 obtain⟨kp,kq,k1,k2,k3,k4⟩:=K5.1 hF.rng
 obtain⟨p1,p2⟩:=a0B kp
 obtain⟨q1,q2⟩:=a0E kq
 have hcp:=aRI s (by omega) p2 (by omega) q2
 have ha:=VP s (fX s n) hF.ok
 have hs0:=hF.s0
 have hs1:=hF.s1
 have hfl:=hF.l
 have hu0:=hF.u0
 have hu1:=hF.u1
 have hu2:=hF.u2
 have hq1:=hF.q1
 unfold m6 oW
 generalize dV s (fX s n)=T at *
 obtain⟨L,e⟩:=T
 simp only at ha hs1 hfl ⊢
 have hnu:fX s n=if n<s.dO - s.used then s.used+n else s.dO:=rfl
 generalize fX s n=u at *
 obtain⟨p,q,i0,i1,i2,i3⟩:=s
 simp only[aX] at *
 obtain⟨k,rfl⟩:=AZ hs0
 refine aD.done ?_
 refine wF [1000000,6] 2 func168 ntmps168 rfl rfl ?_
 intro _
 simp -implicitDefEqProofs only[aB,seval,xT]
 intro b4 h4
 refine(hcp _).to ?_
 simp -implicitDefEqProofs only[aP,aB,↓aY,seval,xT]
 intro b6 h6
 have h64:b6≠b4:=by rintro rfl;rw[aA.aJ] at h6;cases h6
 have h6':st b6=none:=by rwa [aA.aF _ _ h64] at h6
 have hw0:=bG (n:=i0 - i1)
 have hsl:=fun(φ:AF) (y:Operand) (h:φ.eval y=.int .i64 (k:Int))=>aOM (P:=prog) (t:=26) (L:=L.map bJ) gC (by rw[aE];omega) (NF L) h
 simp -implicitDefEqProofs only[hw0,seval]
 refine aT (fun h1=>?_) (fun h1=>?_)
 · have h1':n<i0 - i1:=by simpa using h1
   rw[aH h1'] at hnu
   have hw1:=bG (n:=i1+n)
   rw[←hnu] at hw1
   simp -implicitDefEqProofs only[aP,hw1,←hnu,eA,aB,seval,xT]
   refine(ha _).to ?_
   simp -implicitDefEqProofs only[aE,aP,eA,aB,seval,xT]
   have gM:∀(o:AO),((st.aC b4 (.cells [.fslice [],.fslice [],.int .i64 0,.int .i64 0,.int .i64 0,.int .i64 0])).aC b6 o) b6=some o:=fun o=>aA.aJ _ _ _
   refine xZ [(0,1),(1,1),(2,1),(3,1),(4,1),(5,0),(6,1)] [0,1,2,3,4,6] (dH.aC b6 (.cells [.slice (p.map bK),.slice (q.map Tm.av),.int .i64 i0,.int .i64 (u),.int .i64 (L.length:Int),.int .i64 e])) mixed (by decide +kernel) (by decide +kernel) (by decide +kernel) rfl (g8 (gM _)) ?_
   simp -implicitDefEqProofs only[aP,h64.symm,hsl,aB,seval,xT]
   exact⟨g8 (by rw[aA.aF _ _ h64,aA.aJ]),by simp only[rM,sZ,uB,DE,bR,bQ,jV,yE],(((aM.refl _).aC h4).aC h6').aC h4⟩
 · have h1':¬n<i0 - i1:=by simpa using h1
   rw[aG h1'] at hnu
   obtain rfl:i0=u:=hnu.symm
   simp -implicitDefEqProofs only[aB,seval,xT]
   refine(ha _).to ?_
   simp -implicitDefEqProofs only[aE,aP,eA,aB,seval,xT]
   have gM:∀(o:AO),((st.aC b4 (.cells [.fslice [],.fslice [],.int .i64 0,.int .i64 0,.int .i64 0,.int .i64 0])).aC b6 o) b6=some o:=fun o=>aA.aJ _ _ _
   refine xZ [(0,1),(1,1),(2,1),(3,1),(4,1),(5,0),(6,1)] [0,1,2,3,4,6] (dH.aC b6 (.cells [.slice (p.map bK),.slice (q.map Tm.av),.int .i64 i0,.int .i64 (i0),.int .i64 (L.length:Int),.int .i64 e])) mixed (by decide +kernel) (by decide +kernel) (by decide +kernel) rfl (g8 (gM _)) ?_
   simp -implicitDefEqProofs only[aP,h64.symm,hsl,aB,seval,xT]
   exact⟨g8 (by rw[aA.aF _ _ h64,aA.aJ]),by simp only[rM,sZ,uB,DE,bR,bQ,jV,yE],(((aM.refl _).aC h4).aC h6').aC h4⟩
theorem BT{s:Ss}{n:Int}:uY s n=true↔fK s=true∧0≤n∧s.fin= -1:=by
 simp only[uY,cT,bM]
end Go.AW
