import Derived.Test.YtieofkhcboolkaaGreatDoorVam
import Derived.Test.YtieofkhcboolkaaGreatDoorVaj
import Derived.Test.YtieofkhcboolkaaGreatDoorVal
import Derived.Test.YtieofkhcboolkaaGreatDoorVai
import Derived.Test.YtieofkhcboolkaaGreatDoorVaf
import Derived.Lib.SliceRun
import Derived.Test.YtieofkhcboolkaaGreatDoorVak
set_option linter.unusedSimpArgs false
set_option linter.unusedVariables false
set_option maxRecDepth 100000
namespace Go.AW
open Go.Proofs.Tryz
theorem aT3(σ:Sub)(x y z:Tm):w8 σ x y z=if(sH x y).2=0 then tF σ z (sH x y).1 else((sH x y).2,σ,[]):=by
 unfold w8 sH
 split
 · simp
 split
 · simp
 cases nO x y<;>rfl
def sA(N bb:Nat)(st:aB)(x:Int×Sub×List Int)(r:AV)(st':aB):Prop:=r=.int .i64 x.1∧AN N bb st x.2.1 st'
theorem sA.same{N bb:Nat}{st:aB}{σ:Sub}{r:AV}(h:fL N st bb σ)(k:Int)(hr:r=.int .i64 k):sA N bb st (k,σ,[]) r st:=⟨hr,AN.refl h⟩
theorem HK{N:Nat}(hN:N≤1048576){σ:Sub}(hg:cQ σ)(ho:cX (bG N) σ)(a b:Tm)(ha:bG N a)(hb:bG N b)(bb:Nat)(st:aB)(hS:fL N st bb σ) :
 aD prog 290 [a.av,b.av,.mslice bb 0 N 4] st (fun r st'=>r=.bool (jN σ a b).1∧AN N bb st (jN σ a b).2.1 st'):=by
 obtain⟨r,σ',tr',hU⟩:=uZ hg ho ha hb
 obtain⟨g,hH⟩:=hU.run
 rw[hU.eq]
 exact ZB N hN bb g σ a b r σ' tr' hg ho ha hb hH st hS
abbrev rW:=zi aW (zi cF (zi cW (zi cA bR)))
theorem aU8{N:Nat}(hN:N≤1048576){σ:Sub}(hg:cQ σ)(ho:cX (bG N) σ)(n:Int)(s:ByteArray)(ks:List Tm)(hb:isBuiltin s (ks.length:Int)=true)(hne:s≠⟨#[92,61]⟩)(hv:∀x∈ks,bG N x)(bb:Nat)(st:aB)(hS:fL N st bb σ) :
 aD prog 226 [(Tm.mk 3 n s ks).av,.mslice bb 0 N 4] st (sA N bb st (dE σ s ks)):=by
 have hcs:=Y4 hb
 have EP:=fun x y (hxy:ks= [x,y])=>aXS n s x y (hv x (by simp [hxy])).1 (hv y (by simp [hxy])).1
 have aMF:=fun x y z (hxy:ks= [x,y,z])=>aXR n s x y z (hv y (by simp [hxy])).1
 have aMH:=fun x (hxy:ks= [x]) h=>aXX n s x h
 simp only[aX] at EP aMF aMH ⊢
 refine wF [1000000] 2 func226 ntmps226 rfl rfl ?_
 intro _
 simp only[aA,seval,rW]
 refine aP (fun h=>?_) (fun h=>?_)
 · have hs:s=⟨#[116,114,117,101]⟩:=by simpa using h
   have hk:=NB (ts:=ks) (by subst hs;simpa [isBuiltin] using hb)
   subst hk
   simp only[aA,seval]
   exact sA.same hS _ (by simp [iN,hs])
 have ht:s≠⟨#[116,114,117,101]⟩:=by simpa using h
 simp only[aA,seval]
 refine aP (fun h=>?_) (fun h=>?_)
 · have hs:s=⟨#[102,97,105,108]⟩:=by simpa using h
   have hk:=NB (ts:=ks) (by subst hs;simpa [isBuiltin] using hb)
   subst hk
   simp only[aA,seval]
   exact sA.same hS _ (by simp [iN,hs])
 have hf:s≠⟨#[102,97,105,108]⟩:=by simpa using h
 simp only[aA,seval]
 refine aP (fun h=>?_) (fun h=>?_)
 · have hs:s=⟨#[61]⟩:=by simpa using h
   obtain⟨x,y,rfl⟩:=vZ (ts:=ks) (by subst hs;simp [isBuiltin] at hb;omega)
   have e:dE σ s [x,y]=tF σ x y:=by subst hs;rfl
   rw[e]
   have dR:c8 prog 34 (.slice [x.av,y.av]) (.int .i64 0)=some (.pptr x.av):=bH (av:=Tm.av) (l:=[x,y]) (i:=0) bQ rfl (aN x)
   have gN:c8 prog 34 (.slice [x.av,y.av]) (.int .i64 1)=some (.pptr y.av):=bH (av:=Tm.av) (l:=[x,y]) (i:=1) bQ rfl (aN y)
   simp only[aA,seval]
   refine wX [(0,1),(1,1),(2,1),(3,1),(4,1),(5,1),(6,1),(7,1),(8,1),(9,0),(10,0),(11,1)] [0,1,2,3,4,5,6,7,8,11] d9 mixed rfl fH ?_
   simp only[dR,gN,a7,aN,aA,seval,rW]
   refine(HK hN hg ho x y (hv x (by simp)) (hv y (by simp)) bb _ hS).mono ?_
   rintro _ s2 ⟨rfl,hP⟩
   simp only[aA,seval]
   refine⟨fH,?_⟩
   refine(tV _ _).to ?_
   simp only[aA,seval]
   exact⟨fH,rfl,hP⟩
 have he:s≠⟨#[61]⟩:=by simpa using h
 simp only[aA,seval]
 refine aP (fun h=>absurd (by simpa using h) hne) (fun h=>?_)
 simp only[aA,seval]
 refine aP (fun h=>?_) (fun h=>?_)
 · have hs:s=⟨#[61,61]⟩:=by simpa using h
   obtain⟨x,y,rfl⟩:=vZ (ts:=ks) (by subst hs;simp [isBuiltin] at hb;omega)
   have e:dE σ s [x,y]=(iN (x.same y),σ,[]):=by subst hs;rfl
   rw[e]
   have dR:c8 prog 34 (.slice [x.av,y.av]) (.int .i64 0)=some (.pptr x.av):=bH (av:=Tm.av) (l:=[x,y]) (i:=0) bQ rfl (aN x)
   have gN:c8 prog 34 (.slice [x.av,y.av]) (.int .i64 1)=some (.pptr y.av):=bH (av:=Tm.av) (l:=[x,y]) (i:=1) bQ rfl (aN y)
   simp only[aA,seval]
   refine D1 mixed (by decide +kernel) (by decide +kernel) ?_
   simp only[dR,gN,a7,aN,aA,seval,rW]
   refine gP (aAQ x y _) ?_
   simp only[aA,seval]
   refine gP (tV _ _) ?_
   simp only[aA,seval]
   exact sA.same hS _ rfl
 have hee:s≠⟨#[61,61]⟩:=by simpa using h
 simp only[aA,seval]
 refine aP (fun h=>?_) (fun h=>?_)
 · have hs:s=⟨#[105,115]⟩:=by simpa using h
   obtain⟨x,y,rfl⟩:=vZ (ts:=ks) (by subst hs;simp [isBuiltin] at hb;omega)
   have e:dE σ s [x,y]=if y.ev.2≠0 then(y.ev.2,σ,[]) else tF σ x (oP y.ev.1):=by subst hs;rfl
   rw[e]
   have hy:=hv y (by simp)
   have hin:=M8 (N:=N) (Tm.vO y hy.1)
   have har:=fun st=>LR y st hy.1
   generalize y.ev.1=a at *
   generalize y.ev.2=ca at *
   have dR:c8 prog 34 (.slice [x.av,y.av]) (.int .i64 0)=some (.pptr x.av):=bH (av:=Tm.av) (l:=[x,y]) (i:=0) bQ rfl (aN x)
   have gN:c8 prog 34 (.slice [x.av,y.av]) (.int .i64 1)=some (.pptr y.av):=bH (av:=Tm.av) (l:=[x,y]) (i:=1) bQ rfl (aN y)
   simp only[gN,a7,aN,aA,seval,rW]
   refine(har _).to ?_
   simp only[aA,seval]
   refine aP (fun h4=>?_) (fun h4=>?_)
   · simp only[aA,seval]
     have h4':ca≠0:=by simpa using h4
     rw[aG h4']
     exact sA.same hS _ rfl
   have h4':ca=0:=by simpa using h4
   subst h4'
   rw[aE (by simp)]
   simp only[aA,seval]
   refine wX [(0,1),(1,1),(2,1),(3,1),(4,1),(6,1),(5,0),(7,0),(8,0),(9,1)] [0,1,2,3,4,6,9] d9 mixed rfl fH ?_
   simp only[dR,a7,aN,aA,seval,rW]
   refine(QV a _).to ?_
   rw[←a6P]
   simp only[aA,seval]
   refine⟨fH,?_⟩
   refine(HK hN hg ho x (oP a) (hv x (by simp)) hin bb _ hS).mono ?_
   rintro _ s2 ⟨rfl,hP⟩
   simp only[aA,seval]
   refine⟨fH,?_⟩
   refine(tV _ _).to ?_
   simp only[aA,seval]
   exact⟨fH,rfl,hP⟩
 have his:s≠⟨#[105,115]⟩:=by simpa using h
 simp only[aA,seval]
 refine aP (fun h=>?_) (fun h=>?_)
 · have hs:s=⟨#[97,114,103]⟩:=by simpa using h
   obtain⟨x,y,z,rfl⟩:=aNN (ts:=ks) (by subst hs;simp [isBuiltin] at hb;omega)
   have e:dE σ s [x,y,z]=w8 σ x y z:=rfl
   rw[e,aT3]
   have hz:=hv z (by simp)
   have hy:=hv y (by simp)
   have hga:=aMF x y z rfl
   have hgv:(sH x y).2=0→bG N (sH x y).1:=fun h=>by
    unfold sH at h ⊢
    split at h
    · cases h
    rename_i h1
    rw[aE h1]
    split at h
    · cases h
    rename_i h2
    rw[aE h2]
    cases hu:nO x y with
    | none=>rw[hu] at h;cases h
    | some u=>exact rP N y (fun h=>h1 (.inr h)) hy u (YS hu)
   generalize (sH x y).1=u at *
   generalize (sH x y).2=cu at *
   have xM:c8 prog 34 (.slice [x.av,y.av,z.av]) (.int .i64 2)=some (.pptr z.av):=bH (av:=Tm.av) (l:=[x,y,z]) (i:=2) bQ rfl (aN z)
   simp only[bA,aY] at hga
   simp only[aA,seval,rW]
   refine(hga _).to ?_
   simp only[aN,cP,cI,aA,↓aS,seval,rW]
   refine aP (fun h4=>?_) (fun h4=>?_)
   · simp only[aA,seval]
     have h4':cu≠0:=by simpa using h4
     rw[aE h4']
     exact sA.same hS _ rfl
   have h4':cu=0:=by simpa using h4
   subst h4'
   rw[aG rfl]
   simp only[aA,seval]
   refine wX [(0,1),(1,1),(2,1),(3,1),(4,1),(5,1),(6,0),(7,0),(8,1)] [0,1,2,3,4,5,8] d9 mixed rfl fH ?_
   simp only[xM,a7,aN,aA,seval,rW]
   refine(HK hN hg ho z u hz (hgv rfl) bb _ hS).mono ?_
   rintro _ s2 ⟨rfl,hP⟩
   simp only[aA,seval]
   refine⟨fH,?_⟩
   refine(tV _ _).to ?_
   simp only[aA,seval]
   exact⟨fH,rfl,hP⟩
 have aL6:s≠⟨#[97,114,103]⟩:=by simpa using h
 simp only[aA,seval,rW]
 refine(aXT s _).to ?_
 simp only[aA,seval]
 refine aP (fun h=>?_) (fun h=>?_)
 · have hlen:ks.length=2:=by
    rcases hcs with ⟨h2,h3⟩ | ⟨h2,h3⟩ | ⟨h2,h3⟩ | ⟨h2,h3⟩
    · exact h2
    · simp [ht,hf] at h3
    · rcases h3 with rfl | rfl | rfl | rfl<;>exact absurd h (by decide)
    · exact absurd h3 aL6
   obtain⟨x,y,rfl⟩:=vZ hlen
   have e:dE σ s [x,y]=(zD s x y,σ,[]):=by simp only[dE];rw[aG h]
   rw[e]
   have hc:=EP x y rfl
   simp only[bA,aY] at hc
   simp only[aA,seval,rW]
   refine(hc _).to ?_
   simp only[aA,seval]
   exact sA.same hS _ rfl
 · have hlen:ks.length=1∧(s=⟨#[118,97,114]⟩∨s=⟨#[110,111,110,118,97,114]⟩∨s=⟨#[97,116,111,109]⟩∨s=⟨#[105,110,116]⟩):=by
    rcases hcs with ⟨h2,h3⟩ | ⟨h2,h3⟩ | ⟨h2,h3⟩ | ⟨h2,h3⟩
    · simp [h,he,hne,hee,his] at h3
    · simp [ht,hf] at h3
    · exact⟨h2,h3⟩
    · exact absurd h3 aL6
   obtain⟨x,rfl⟩:=IY hlen.1
   have e:dE σ s [x]=(iN (uR s x),σ,[]):=rfl
   rw[e]
   have hc:=aMH x rfl hlen.2
   simp only[bA,aY] at hc
   simp only[aA,seval,rW]
   refine(hc _).to ?_
   simp only[aA,seval]
   exact sA.same hS _ rfl
theorem YW(N:Nat)(σ:Sub):w7 4 (cZ N σ):=by
 intro e h
 simp only[cZ,cB] at h
 obtain⟨i,_,rfl⟩:=h
 refine⟨LT _,?_⟩
 cases σ (i:Int) with
 | none=>rfl
 | some u=>exact cI u
theorem HI(N:Nat)(σ:Sub):∀e∈cZ N σ,e.cD=false:=by
 intro e h
 simp only[cZ,cB] at h
 obtain⟨i,_,rfl⟩:=h
 cases σ (i:Int) with
 | none=>rfl
 | some u=>exact cP u
theorem vJ(N:Nat)(σ:Sub):(cZ N σ).length=N:=by simp [cZ]
theorem QF{N:Nat}(h0:0<N)(hN:N≤1048576)(σ:Sub){st:aB}{K:AV→aB→Prop}(hK:∀b,st b=none→fL N (st.aC b (.cells ((cZ N σ).flatMap AV.cells))) b σ→K (.mslice b 0 N 4) (st.aC b (.cells ((cZ N σ).flatMap AV.cells)))) :
 jC prog 34 st (.fslice []) (.slice (cZ N σ)) K:=by
 have hl:=vJ N σ
 refine eO (P:=prog) (st:=st) (b:=0) (l:=[]) (xs:=cZ N σ) (x:=.slice (cZ N σ)) (K:=K) bQ jE jF rfl rfl (YW N σ) (by simp) (by simp) (by simp only[aZ,hl];omega) (by simp only[aZ,hl];omega) (fun b hb=>?_)
 have hne: []++cZ N σ≠[]:=by
  rw[fB]
  intro e
  rw[e] at hl
  simp at hl
  omega
 rw[pW hne,kS hne,fB,hl]
 exact hK b (hb hne) (aB.aJ _ _ _)
theorem aVA{N:Nat}(h0:0<N)(hN:N≤1048576){σ:Sub}(hg:cQ σ)(ho:cX (bG N) σ)(n:Int)(s:ByteArray)(x y:Tm)(hs:s=⟨#[92,61]⟩)(hx:bG N x)(hy:bG N y)(st:aB) :
 aD prog 226 [(Tm.mk 3 n s [x,y]).av,.slice (cZ N σ)] st (fun r st'=>r=.int .i64 (iN (!(jN σ x y).1))∧st'=st):=by
 have ht:s≠⟨#[116,114,117,101]⟩:=by subst hs;decide
 have hf:s≠⟨#[102,97,105,108]⟩:=by subst hs;decide
 have he:s≠⟨#[61]⟩:=by subst hs;decide
 refine aD.done ?_
 simp only[aX 3,bA,aY]
 refine wF [1000000] 2 func226 ntmps226 rfl rfl ?_
 intro _
 have dR:c8 prog 34 (.slice [x.av,y.av]) (.int .i64 0)=some (.pptr x.av):=bH (av:=Tm.av) (l:=[x,y]) (i:=0) bQ rfl (aN x)
 have gN:c8 prog 34 (.slice [x.av,y.av]) (.int .i64 1)=some (.pptr y.av):=bH (av:=Tm.av) (l:=[x,y]) (i:=1) bQ rfl (aN y)
 simp only[aA,seval,rW]
 refine aP (fun h=>absurd (by simpa using h) ht) (fun h=>?_)
 simp only[aA,seval]
 refine aP (fun h=>absurd (by simpa using h) hf) (fun h=>?_)
 simp only[aA,seval]
 refine aP (fun h=>absurd (by simpa using h) he) (fun h=>?_)
 simp only[aA,seval]
 refine aP (fun h=>?_) (fun h=>absurd hs (by simpa using h))
 simp only[aA,seval]
 refine wX [(0,1),(1,1),(2,1),(3,1),(4,1),(5,1),(6,1),(7,1),(8,1),(9,1),(10,0),(11,0),(12,1),(13,0),(14,1)] [0,1,2,3,4,5,6,7,8,9,12,14] d9 mixed rfl fH ?_
 simp only[dR,gN,a7,aN,aA,seval,rW]
 refine QF h0 hN σ fun b hb hA0=>?_
 have hD0:aL (st.aC b (.cells ((cZ N σ).flatMap AV.cells))) st:=(aL.refl _).aC hb
 generalize st.aC b (.cells ((cZ N σ).flatMap AV.cells))=s0 at *
 simp only[aA,seval]
 refine⟨fH,?_⟩
 refine(HK hN hg ho x y hx hy b _ hA0).mono ?_
 rintro _ s2 ⟨rfl,hA,hk⟩
 simp only[aA,seval]
 refine⟨fH,?_⟩
 refine(tV _ _).to ?_
 simp only[aA,seval]
 refine⟨fH,rfl,fun q=>?_⟩
 have key:∀o,st q=some o→s2 q=some o:=fun o h=>hk q o ((hD0 q).2 o h) (by rintro rfl;rw[hb] at h;cases h)
 refine⟨fun h=>?_,key⟩
 cases hq:st q with
 | none=>rfl
 | some o=>rw[key o hq] at h;cases h
theorem aU9{N:Nat}(h0:0<N)(hN:N≤1048576){σ:Sub}(hg:cQ σ)(ho:cX (bG N) σ)(n:Int)(s:ByteArray)(ks:List Tm)(hb:isBuiltin s (ks.length:Int)=true)(hv:∀x∈ks,bG N x)(bb:Nat)(st:aB)(hS:fL N st bb σ) :
 aD prog 226 [(Tm.mk 3 n s ks).av,.mslice bb 0 N 4] st (sA N bb st (dE σ s ks)):=by
 by_cases hs:s=⟨#[92,61]⟩
 · obtain⟨x,y,rfl⟩:=vZ (ts:=ks) (by subst hs;simp [isBuiltin] at hb;omega)
   have e:dE σ s [x,y]=(iN (!(jN σ x y).1),σ,[]):=by subst hs;rfl
   rw[e]
   have hc:=aVA h0 hN hg ho n s x y hs (hv x (by simp)) (hv y (by simp)) d9
   refine(aD.aLT (args':=[(Tm.mk 3 n s [x,y]).av,.mslice bb 0 N 4]) (st:=st) rfl hc fun h vs S V=>?_).mono ?_
   · simp only[dB] at V ⊢
     obtain⟨v,vs',rfl,V1,w,ws',rfl,V2,rfl⟩:=V
     refine⟨v,[w],rfl,V1.mono ((aL.d9 st).step h),w,[],rfl,?_,rfl⟩
     have h2:=V2.fz S hS (HI N σ) ⟨4,D0 N σ⟩
     have h3:(AV.mslice bb 0 N 4).fz bb (cZ N σ)=.slice (cZ N σ):=by simp [AV.fz,vJ]
     rw[h3] at h2
     exact h2.mono ((aL.d9 (st.erase bb)).step h)
   · rintro _ _ ⟨rfl,rfl⟩
     exact sA.same hS _ rfl
 · exact aU8 hN hg ho n s ks hb hs hv bb st hS
abbrev F3:=zi aW (zi cA bR)
theorem aU6{N:Nat}{σ:Sub}(hok:cX (cJ N) σ){f:Nat}{t u:Tm}(hw:fZ σ f t u)(ht:cJ N t)(st:aB):aD prog 329 [t.av,.slice (cZ N σ)] st (fun r st'=>r=u.av∧st'=st):=by
 refine aD.done ?_
 refine wF [1000000,2] 2 func329 ntmps329 rfl rfl ?_
 intro _
 have hlen:(cZ N σ).length=N:=by simp [cZ]
 simp only[aA,seval,F3]
 intro b2 h2 b4 h4
 have hne:b4≠b2:=by rintro rfl;rw[aB.aJ] at h4;cases h4
 have hn4:st b4=none:=by rw[aB.aH st _ hne] at h4;exact h4
 refine iJ (σ:=Nat×Tm) [1000000,2] [1,2,4] (fun p=>fZ σ p.1 p.2 u∧cJ N p.2) (fun p=>[]) (fun p=>(st.aC b2 (.cells p.2.av.cells)).aC b4 (.cells [.int .i64 0,.int .i64 0,.str ⟨#[]⟩,.fslice []])) (fun p=>p.1) (by decide +kernel) ⟨(f,t),⟨hw,ht⟩,aO.mk (by simp only[aA,seval])⟩ ?_
 rintro⟨g,t⟩ ⟨hw,ht⟩
 obtain⟨k,n,s,ts⟩:=t
 simp only at hw ht
 simp only[aX]
 have vS:k≠1∨σ n=none→u=.mk k n s ts:=fun h=>by
  cases hw with
  | stop _=>rfl
  | go h1 h2 _=>
   simp only[Tm.k] at h1
   rcases h with h | h
   · exact absurd h1 h
   · rw[show σ n=some _ from h2] at h;cases h
 simp only[hne.symm,aA,seval,F3]
 refine cT (fun h=>?_) (fun h=>?_)
 case refine_2=>
  simp only[h,aK,hne.symm,aA,seval,F3]
  simp only[jZ,dF] at h
  rw[vS (.inl h),←aX]
  exact⟨Tm.soft _,((aL.refl _).aC h2).aC hn4⟩
 simp only[bK] at h
 subst h
 obtain⟨hn0,hn1,_⟩:=ht.var
 obtain⟨i,rfl⟩:∃i:Nat,n=i:=⟨n.toNat,by omega⟩
 have hi:i<N:=by omega
 have hi':decide ((i:Int)<(N:Int))=true:=by simp;omega
 simp only[bM,hi',kG,hne.symm,hlen,aA,seval,F3]
 have hat:c8 prog 34 (.slice (cZ N σ)) (.int .i64 (i:Int))=some (.pptr (cellOf (σ (i:Int)))):=bH (av:=fun i:Nat=>cellOf (σ (i:Int))) bQ (List.getElem?_range hi) (LT _)
 cases hw with
 | stop hs=>
  rw[show σ (i:Int)=none from hs rfl] at hat
  simp only[cellOf] at hat
  simp only[hat,bM,aK,hne.symm,aA,seval,F3]
  exact⟨by rw[←aX,Tm.soft],((aL.refl _).aC h2).aC hn4⟩
 | go h1 h2' h3=>
  simp only[Tm.n] at h2'
  have ho:=hok _ _ h2'
  rename_i g' u'
  obtain⟨k',n',s',ts'⟩:=u'
  have hk':¬k'=0:=by have:=ho.kind.1;omega
  rw[h2'] at hat
  simp only[cellOf,aX] at hat
  simp only[hat,hk',bP,aK,hne.symm,aA,seval,F3]
  rw[aB.AU hne,aB.lZ _ _ _ hne]
  refine⟨(g',.mk k' n' s' ts'),Nat.lt_succ_self _,⟨h3,ho⟩,?_⟩
  simp only[aX]
  exact aO.mk (by simp only[aA,seval])
abbrev uT:=zi aW (zi cW (zi cA bR))
theorem ZA{N:Nat}{σ:Sub}{R:Int→Tm}{rk:Int→Nat}{B:Nat}(G:Good σ R rk B)(hok:cX (bG N) σ) :
 ∀(room:Nat) (t:Tm) (st:aB),room≤120→bG N t→aD prog 286 [t.av,.slice (cZ N σ),.int .i64 (room:Int)] st (Full (t.aM R) room st)
 | room,t,st,hr,ht=>by
  have IH:=fun(NT:Nat) (hlt:NT<room) (x:Tm) st=>ZA G hok NT x st
  obtain⟨f,hw⟩:=G.wk t
  generalize wk σ t=u at *
  have M0:cX (cJ N) σ:=fun n u hu=>(hok n u hu).1
  have hsu:=hw.all (p:=bG N) hok ht
  have hcw:=fun st=>aU6 M0 hw ht.1 st
  obtain⟨k,n,s,ts⟩:=u
  have hv:=aLY G hw (hsu.1.2.1)
  rw[hv]
  obtain⟨hlen,qB⟩:=Tm.qN (hsu.1.small)
  have bEX:=hsu.1.kind.2
  have hkn:=hsu.1.all.2
  have hkk:∀x∈ts,bG N x:=fun x hx=>by
   refine⟨hkn x hx,?_⟩
   have:=hsu.2
   rw[Tm.gJ] at this
   have:=JL (f:=Tm.nodes) hx
   omega
  refine aD.nR (aD.fin ?_)
  refine wF [1000000,3,8] 3 func286 ntmps286 rfl rfl ?_
  intro _
  simp only[aA,seval,uT]
  intro b3 h3 b6 h6
  have h63:b6≠b3:=by rintro rfl;rw[aB.aJ] at h6;cases h6
  have hn6:st b6=none:=by rw[aB.aH st _ h63] at h6;exact h6
  have hwr:∀z:Int,-1≤z→z≤200→IntKind.i64.wrap z=z:=fun z h1 h2=>wrap64 (by omega) (by omega)
  have hw1:=hwr ((room:Int) - 1) (by omega) (by omega)
  refine aP (fun h=>?_) (fun h=>?_)
  · simp only[bK] at h
    obtain rfl:room=0:=by omega
    simp only[aK,aA,↓aS,seval,uT]
    refine⟨0,[],_,rfl,by simp,by simp,⟨4,by simp⟩,st,(fun x=>by by_cases e3:x=b3<;>by_cases e6:x=b6<;>simp_all [aB.aC]),rfl,Tm.zero,-1,?_,Int.le_refl _,?_⟩
    · simp only[Tm.zero,aX,iX,jS,eW,m9,nS,bA,aY]
    · rw[aE (by rw[Tm.gJ];omega)];decide
  simp only[dF] at h
  simp only[h63.symm,aA,seval,uT]
  refine(hcw _).to ?_
  simp only[aX]
  simp only[aK,h63.symm,hw1,aA,↓aS,seval,uT]
  intro b8 h8
  have h83:b8≠b3:=by rintro rfl;simp [aB.aC] at h8
  have h86:b8≠b6:=by rintro rfl;simp [aB.aC,h63] at h8
  have hn8:st b8=none:=by rw[aB.aH _ _ h83,aB.aH _ _ h86,aB.aH _ _ h83] at h8;exact h8
  rw[aB.AU h63]
  have hW6:((st.aC b6 (.cells [.int .i64 0,.int .i64 0,.str ⟨#[]⟩,.fslice []])).aC b3 (.cells [.int .i64 k,.int .i64 n,.str s,.slice (ts.map Tm.av)])) b6=some (.cells [.int .i64 0,.int .i64 0,.str ⟨#[]⟩,.fslice []]):=by rw[aB.aH _ _ h63,aB.aJ]
  have hW3:((st.aC b6 (.cells [.int .i64 0,.int .i64 0,.str ⟨#[]⟩,.fslice []])).aC b3 (.cells [.int .i64 k,.int .i64 n,.str s,.slice (ts.map Tm.av)])) b3=some (.cells [.int .i64 k,.int .i64 n,.str s,.slice (ts.map Tm.av)]):=aB.aJ _ _ _
  have hWd:∀Y Z,aL ((((st.aC b6 (.cells [.int .i64 0,.int .i64 0,.str ⟨#[]⟩,.fslice []])).aC b3 (.cells [.int .i64 k,.int .i64 n,.str s,.slice (ts.map Tm.av)])).aC b8 Z).aC b6 Y) st:=fun Y Z x=>by
   by_cases e3:x=b3<;>by_cases e6:x=b6<;>by_cases e8:x=b8<;>simp_all [aB.aC]
  generalize ((st.aC b6 (.cells [.int .i64 0,.int .i64 0,.str ⟨#[]⟩,.fslice []])).aC b3 (.cells [.int .i64 k,.int .i64 n,.str s,.slice (ts.map Tm.av)]))=W at *
  have zU:(Tm.mk k n s (ts.map (Tm.aM R))).nodes=1+bB Tm.nodes (ts.map (Tm.aM R)):=Tm.gJ _ _ _ _
  refine dX (σ:=Nat×List Tm×Int) [1000000,3,8] [1,3,6,7,8] ts
   (fun i p=>(p.2.1.map Tm.av≠[]→(W.aC b8 (.cells ([.int .i64 k,.int .i64 n,.str s]++ [bS 4 p.1 (p.2.1.map Tm.av)]))) p.1=none)∧p.2.1.length=i∧-1≤p.2.2 ∧
    (0≤p.2.2→p.2.1=(ts.take i).map (Tm.aM R)∧p.2.2=(room:Int) - 1 - bB Tm.nodes p.2.1)∧(p.2.2<0→room<1+bB Tm.nodes (ts.map (Tm.aM R))))
   (fun i p=>[(9,.int .i64 p.2.2),(10,.int .i64 i)])
   (fun i p=>lE W b8 p.1 [.int .i64 k,.int .i64 n,.str s] (p.2.1.map Tm.av)) (by decide +kernel)
   ⟨(0,[],(room:Int) - 1),⟨fun h=>absurd rfl h,rfl,by simp only;omega,fun _=>⟨by simp,by simp [bB]⟩,fun h=>by simp only at h;omega⟩,aO.mk (by simp only[aA,↓aS,seval])⟩ (fun i x p hx hlt bL ER hinv=>?_) (fun p hge hinv=>?_)
  · obtain⟨b,acc,left⟩:=p
    obtain⟨i1,i2,i3,i4,i5⟩:=hinv
    simp only at i1 i2 i3 i4 i5
    have h3o:=oQ i1 (x:=b3) (by rw[hW3];simp) h83.symm
    rw[hW3] at h3o
    simp only[bL,bM,kG,aF,h3o,aA,seval,uT]
    refine aP (fun h9=>?_) (fun h9=>?_)
    case refine_2=>
     simp only[dF] at h9
     have hbo:=mK i1
     have h6o:=oQ i1 (x:=b6) (by rw[hW6];simp) h86.symm
     rw[hW6] at h6o
     simp only[aK,hbo,h6o,kF,aA,seval,uT]
     obtain⟨g5,g6⟩:=vY (o:=.cells [.int .i64 k,.int .i64 n,.str s,bS 4 b (acc.map Tm.av)]) i1 (show W b6≠none by rw[hW6];simp) h86.symm
     refine⟨b,_,_,g5,g6,oV _,⟨4,gO _⟩,st,hWd _ _,rfl,.mk k n s acc,left,?_,i3,?_⟩
     · simp only[jS,iX,bA,aY,eW,m9,oI,aX]
     · rw[zU]
       skip
       rw[aE (by have:=i5 (by omega);omega)]
       omega
    simp only[bK] at h9
    obtain⟨e1,e2⟩:=i4 h9
    have eT:=cH hx
    have hsl:=bAQ Tm.nodes (ts.map (Tm.aM R)) (i+1)
    rw[←GS,dY,hx] at hsl
    simp only[DL,o7,bA,aY,FW,bB,←e1] at hsl
    obtain⟨NT,rfl⟩:∃r:Nat,left=r:=⟨left.toNat,by omega⟩
    have cM:(acc.map Tm.av).length=i:=by rw[aF,i2]
    have hw:=bF (n:=(i:Int)+1)
    have hbo:=mK i1
    simp only[h3o,bH (av:=Tm.av) bQ hx (aN x),a7,aN,aA,seval,uT]
    refine(IH NT (by omega) x _ (by omega) (hkk x eT)).mono ?_
    rintro _ _ ⟨rfl,y,a6Z,rfl,hl1,hl2⟩
    simp only[a7,aN,cI,cP,hbo,sD,aA,↓aS,seval,uT]
    refine eO bQ jE jF rfl rfl (fQ (aN _) (cI _)) (gO _) i1 (by simp only[cM,aU,aZ];omega) (by simp only[cM,aU,aZ];omega) (fun b' hb'=>?_)
    rw[show acc.map Tm.av++ [y.av]=(acc++ [y]).map Tm.av by simp] at hb' ⊢
    obtain⟨g1,g2,g3⟩:=xS hb'
    simp only[gV,fB] at g1 g3
    simp only[g3,qZ,kF,g1,hw,aK,aA,seval,uT]
    refine⟨(b',acc++ [y],a6Z),⟨g2,by simp [i2],hl1,fun h=>?_,fun h=>?_⟩,aO.mk (by simp only[aA,seval])⟩
    · simp only at h
      split at hl2
      · obtain⟨rfl,hl3⟩:=hl2
        refine⟨by rw[dY,hx];simp [e1],?_⟩
        simp only[FW,bB]
        omega
      · omega
    · simp only at h
      split at hl2
      · omega
      · omega
  · obtain⟨b,acc,left⟩:=p
    obtain⟨i1,i2,i3,i4,i5⟩:=hinv
    simp only at i1 i2 i3 i4 i5
    rw[dS] at i4
    have h3o:=oQ i1 (x:=b3) (by rw[hW3];simp) h83.symm
    rw[hW3] at h3o
    simp only[hge,aF,h3o,aA,seval,uT]
    have hbo:=mK i1
    have h6o:=oQ i1 (x:=b6) (by rw[hW6];simp) h86.symm
    rw[hW6] at h6o
    simp only[aK,hbo,h6o,kF,aA,seval,uT]
    obtain⟨g5,g6⟩:=vY (o:=.cells [.int .i64 k,.int .i64 n,.str s,bS 4 b (acc.map Tm.av)]) i1 (show W b6≠none by rw[hW6];simp) h86.symm
    refine⟨b,_,_,g5,g6,oV _,⟨4,gO _⟩,st,hWd _ _,rfl,.mk k n s acc,left,?_,i3,?_⟩
    · simp only[jS,iX,bA,aY,eW,m9,oI,aX]
    · rw[zU]
      skip
      rcases Int.lt_or_le left 0 with h9 | h9
      · rw[aE (by have:=i5 h9;omega)];exact h9
      · obtain⟨e1,e2⟩:=i4 h9
        rw[←e1] at i5 ⊢
        rw[aG (by omega)]
        exact⟨rfl,by omega⟩
termination_by room=>room
decreasing_by exact hlt
end Go.AW
namespace Go.AW
def H5(c:Cl):Int:=(bT (c.1::c.2) []).foldl (fun n v=>if n≤v then v+1 else n) 0
def pD(c:Cl):Nat:=(H5 c).toNat
def dG(N:Nat)(t:Tm):Tm:=b9 (fun v=>v+(N:Int)) t
def eQ(t:Tm):Bool:=t.flat 30&&decide (t.nodes≤120)
def sM(t:Tm):Bool:=decide (t.k=3)&&decide (t.s=⟨#[33]⟩)&&decide ((t.ts.length:Int)=0)
def IE(c:Cl)(t:Tm):Bool:=decide (c.1.s=t.s)&&decide ((c.1.ts.length:Int)=(t.ts.length:Int))
def eJ(p:List Cl)(t:Tm):List Nat:=(List.range p.length).filter fun i=>match p[i]? with
 | some c=>IE c t
 | none=>false
def p6(c:Int):Int:=if c=2 then 4 else if c=3 then 5 else if c=4 then 6 else 7
noncomputable def jD(σ:Sub)(vars:List Int):Option (List Tm):=
 if((vars.map (rs σ)).all eQ=true)∧(bT (vars.map (rs σ)) []).length≤26 then some (lB (vars.map (rs σ))) else none
structure RG where
 t:Tm
 aV:Nat
structure RC where
 goal:Tm
 rest:List RG
 left:List Nat
 σ:Sub
 N:Nat
structure RS where
 goals:List RG
 σ:Sub
 N:Nat
 chs:List RC
inductive RO where
 | go (s:RS)
 | fail
 | stop (e:Int)
noncomputable def iZ(p:List Cl)(chs:List RC)(goal:Tm)(rest:List RG)(σ:Sub)(N:Nat):List Nat→Option RS
 | []=>none
 | i::l=>match p[i]? with
  | none=>none
  | some x=>if(jN σ goal (dG N x.1)).1=true then
   some ⟨x.2.map (fun t=>⟨dG N t,chs.length⟩)++rest,(jN σ goal (dG N x.1)).2.1,N+pD x,if l= [] then chs else chs++ [⟨goal,rest,l,σ,N⟩]⟩
   else iZ p chs goal rest σ N l
noncomputable def fS(p:List Cl):Nat→List RC→Option RS
 | 0,_=>none
 | n+1,chs=>match chs.getLast? with
  | none=>none
  | some c=>match iZ p chs.dropLast c.goal c.rest c.σ c.N c.left with
   | some s=>some s
   | none=>fS p n chs.dropLast
noncomputable def iY(p:List Cl)(cnd:Tm→List Nat→List Nat)(s:RS)(g:RG)(rest:List RG):RO:=
 if eQ (g.t.aM (rs s.σ))=false then .stop 3
 else if sM (g.t.aM (rs s.σ))=true then .go ⟨rest,s.σ,s.N,s.chs.take g.aV⟩
 else if isBuiltin (g.t.aM (rs s.σ)).s ((g.t.aM (rs s.σ)).ts.length:Int)=true then
  if(dE s.σ (g.t.aM (rs s.σ)).s (g.t.aM (rs s.σ)).ts).1=0 then .go ⟨rest,(dE s.σ (g.t.aM (rs s.σ)).s (g.t.aM (rs s.σ)).ts).2.1,s.N,s.chs⟩
  else if(dE s.σ (g.t.aM (rs s.σ)).s (g.t.aM (rs s.σ)).ts).1=1 then .fail
  else .stop (p6 (dE s.σ (g.t.aM (rs s.σ)).s (g.t.aM (rs s.σ)).ts).1)
 else if eJ p (g.t.aM (rs s.σ))= [] then .stop 8
 else match iZ p s.chs (g.t.aM (rs s.σ)) rest s.σ s.N (cnd (g.t.aM (rs s.σ)) (eJ p (g.t.aM (rs s.σ)))) with
  | some s'=>.go s'
  | none=>.fail
noncomputable def iP(p:List Cl)(cnd:Tm→List Nat→List Nat)(vars:List Int)(most fuel:Nat)(s:RS):List (List Tm)×Int:=
 match s.goals with
 | []=>if h:most=0 then([],1) else match jD s.σ vars with
  | none=>([],3)
  | some a=>match fS p s.chs.length s.chs with
   | none=>([a],0)
   | some s'=>(a::(iP p cnd vars (most - 1) fuel s').1,(iP p cnd vars (most - 1) fuel s').2)
 | g::rest=>if h:fuel=0 then([],2) else match iY p cnd s g rest with
  | .stop e=>([],e)
  | .go s'=>iP p cnd vars most (fuel - 1) s'
  | .fail=>match fS p s.chs.length s.chs with
   | none=>([],0)
   | some s'=>iP p cnd vars most (fuel - 1) s'
termination_by most+fuel
decreasing_by all_goals omega
def lU(q:List Tm):RS:=⟨q.map fun t=>⟨t,0⟩,Sub.none,26,[]⟩
noncomputable def wA(p:List Cl)(cnd:Tm→List Nat→List Nat)(q:List Tm)(most fuel:Nat):List (List Tm)×Int:=iP p cnd (bT q []) most fuel (lU q)
structure IG where
 t:Tm
 cut:Nat
 up:Int
structure IC where
 goal:Tm
 node:Nat
 rest:List IG
 list:List Nat
 eY:Nat
 taken:Nat
structure IS where
 goals:List IG
 σ:Sub
 tr:List Int
 chs:List IC
 fresh:Nat
 nn:Nat
inductive yM where
 | go (s:IS)
 | fail (s:IS)
 | stop (e:Int)
noncomputable def fR(p:List Cl)(goal:Tm)(at':Nat)(rest:List IG):List Nat→IS→Bool×IS
 | [],s=>(false,s)
 | i::l,s=>match p[i]? with
  | none=>(false,s)
  | some x=>if(jN s.σ goal (dG s.fresh x.1)).1=true then
   (true,⟨x.2.map (fun t=>⟨dG s.fresh t,s.chs.length,at'⟩)++rest,(jN s.σ goal (dG s.fresh x.1)).2.1,s.tr++(jN s.σ goal (dG s.fresh x.1)).2.2,if l= [] then s.chs else s.chs++ [⟨goal,at',rest,l,s.tr.length,s.nn⟩],s.fresh+26,s.nn⟩)
   else fR p goal at' rest l { s with fresh:=s.fresh+26 }
def IS.pop(s:IS)(c:IC):IS:={ s with chs:=s.chs.dropLast,σ:=s.σ.out (s.tr.drop c.eY),tr:=s.tr.take c.eY,nn:=c.taken }
noncomputable def gS(p:List Cl):Nat→IS→Option IS
 | 0,_=>none
 | n+1,s=>match s.chs.getLast? with
  | none=>none
  | some c=>if(fR p c.goal c.node c.rest c.list (s.pop c)).1=true then some (fR p c.goal c.node c.rest c.list (s.pop c)).2 else gS p n (fR p c.goal c.node c.rest c.list (s.pop c)).2
noncomputable def mJ(p:List Cl)(cnd:Tm→List Nat→List Nat)(s:IS)(g:IG)(rest:List IG):yM:=
 if eQ (g.t.aM (rs s.σ))=false then .stop 3
 else if sM (g.t.aM (rs s.σ))=true then .go { s with goals:=rest,chs:=s.chs.take g.cut,nn:=s.nn+1 }
 else if isBuiltin (g.t.aM (rs s.σ)).s ((g.t.aM (rs s.σ)).ts.length:Int)=true then
  if(dE s.σ (g.t.aM (rs s.σ)).s (g.t.aM (rs s.σ)).ts).1=0 then .go { s with goals:=rest,σ:=(dE s.σ (g.t.aM (rs s.σ)).s (g.t.aM (rs s.σ)).ts).2.1,tr:=s.tr++(dE s.σ (g.t.aM (rs s.σ)).s (g.t.aM (rs s.σ)).ts).2.2,nn:=s.nn+1 }
  else if(dE s.σ (g.t.aM (rs s.σ)).s (g.t.aM (rs s.σ)).ts).1=1 then .fail { s with σ:=(dE s.σ (g.t.aM (rs s.σ)).s (g.t.aM (rs s.σ)).ts).2.1,tr:=s.tr++(dE s.σ (g.t.aM (rs s.σ)).s (g.t.aM (rs s.σ)).ts).2.2,nn:=s.nn+1 }
  else .stop (p6 (dE s.σ (g.t.aM (rs s.σ)).s (g.t.aM (rs s.σ)).ts).1)
 else if eJ p (g.t.aM (rs s.σ))= [] then .stop 8
 else if(fR p (g.t.aM (rs s.σ)) s.nn rest (cnd (g.t.aM (rs s.σ)) (eJ p (g.t.aM (rs s.σ)))) { s with nn:=s.nn+1 }).1=true then .go (fR p (g.t.aM (rs s.σ)) s.nn rest (cnd (g.t.aM (rs s.σ)) (eJ p (g.t.aM (rs s.σ)))) { s with nn:=s.nn+1 }).2
 else .fail (fR p (g.t.aM (rs s.σ)) s.nn rest (cnd (g.t.aM (rs s.σ)) (eJ p (g.t.aM (rs s.σ)))) { s with nn:=s.nn+1 }).2
noncomputable def jU(p:List Cl)(cnd:Tm→List Nat→List Nat)(vars:List Int)(most fuel:Nat)(s:IS):List (List Tm)×Int:=
 match s.goals with
 | []=>if h:most=0 then([],1) else match jD s.σ vars with
  | none=>([],3)
  | some a=>match gS p s.chs.length s with
   | none=>([a],0)
   | some s'=>(a::(jU p cnd vars (most - 1) fuel s').1,(jU p cnd vars (most - 1) fuel s').2)
 | g::rest=>if h:fuel=0 then([],2) else match mJ p cnd s g rest with
  | .stop e=>([],e)
  | .go s'=>jU p cnd vars most (fuel - 1) s'
  | .fail s'=>match gS p s'.chs.length s' with
   | none=>([],0)
   | some s''=>jU p cnd vars most (fuel - 1) s''
termination_by most+fuel
decreasing_by all_goals omega
def pF(q:List Tm):IS:=⟨q.map fun t=>⟨t,0,-1⟩,Sub.none,[],[],26,0⟩
structure o9 (ρ:Int→Int) (N F:Nat) (σ τ:Sub):Prop where
 sim:fM ρ N σ τ
 rng:∀v,0≤v→v<(N:Int)→0≤ρ v∧ρ v<(F:Int)
 g1:cQ σ
 o1:cX (bG N) σ
 g2:cQ τ
 o2:cX (bG F) τ
 d1:∀n,¬(0≤n∧n<(N:Int))→σ n=none
 d2:∀n,¬(0≤n∧n<(F:Int))→τ n=none
 h26:26≤N
 idn:∀v,0≤v→v<26→ρ v=v
theorem o9.mono{ρ:Int→Int}{N F F':Nat}{σ τ:Sub}(S:o9 ρ N F σ τ)(h:F≤F'):o9 ρ N F' σ τ:=
 ⟨S.sim,fun v h0 h1=>⟨(S.rng v h0 h1).1,by have:=(S.rng v h0 h1).2;omega⟩,S.g1,S.o1,S.g2,S.o2.imp fun t ht=>ht.mono (by omega),S.d1,fun n hn=>S.d2 n fun h'=>hn ⟨h'.1,by omega⟩,S.h26,S.idn⟩
def t8(ρ:Int→Int)(N F:Nat):Int→Int:=fun v=>if v<(N:Int) then ρ v else v - N+F
theorem vP{ρ:Int→Int}{N F:Nat}{v:Int}(h:v<(N:Int)):t8 ρ N F v=ρ v:=aG h
theorem o9.ext{ρ:Int→Int}{N F:Nat}{σ τ:Sub}(S:o9 ρ N F σ τ){k:Nat}(hk:k≤26):o9 (t8 ρ N F) (N+k) (F+26) σ τ:=by
 have jT:∀v:Int,¬v<(N:Int)→t8 ρ N F v=v - N+F:=fun v h=>aE h
 refine⟨⟨fun v w hv0 hv1 hw0 hw1 e=>?_,fun v h0 h1=>?_⟩,fun v h0 h1=>?_,S.g1,S.o1.imp fun t ht=>ht.mono (by omega),S.g2,S.o2.imp fun t ht=>ht.mono (by omega),fun n hn=>S.d1 n fun h=>hn ⟨h.1,by omega⟩,fun n hn=>S.d2 n fun h=>hn ⟨h.1,by omega⟩,by have:=S.h26;omega,fun v h0 h1=>by rw[vP (by have:=S.h26;omega)];exact S.idn v h0 h1⟩
 · by_cases hv:v<(N:Int)<;>by_cases hw:w<(N:Int)
   · rw[vP hv,vP hw] at e;exact S.sim.inj v w hv0 hv hw0 hw e
   · rw[vP hv,jT w hw] at e
     have:=S.rng v hv0 hv
     omega
   · rw[vP hw,jT v hv] at e
     have:=S.rng w hw0 hw
     omega
   · rw[jT v hv,jT w hw] at e
     omega
 · by_cases hv:v<(N:Int)
   · rw[vP hv,S.sim.map v h0 hv]
     cases hs:σ v with
     | none=>rfl
     | some u=>
      simp only[oG,Option.some.injEq]
      refine UX fun w hw=>?_
      rw[vP ((S.o1 v u hs).1.2.2 w hw).2]
   · rw[jT v hv,S.d1 v (fun h=>hv h.2),S.d2 _ (fun h=>by omega)]
     try rfl
 · by_cases hv:v<(N:Int)
   · rw[vP hv]
     have:=S.rng v h0 hv
     omega
   · rw[jT v hv];omega
theorem aLS(l:List Int):∀n:Int,n≤l.foldl (fun n v=>if n≤v then v+1 else n) n∧(∀v∈l,v<l.foldl (fun n v=>if n≤v then v+1 else n) n)∧∀m:Int,n≤m→(∀v∈l,v<m)→l.foldl (fun n v=>if n≤v then v+1 else n) n≤m:=by
 induction l with
 | nil=>intro n;exact⟨Int.le_refl _,by simp,fun m h _=>h⟩
 | cons x l ih=>
  intro n
  simp only[vD]
  obtain⟨h1,h2,h3⟩:=ih (if n≤x then x+1 else n)
  refine⟨?_,fun v hv=>?_,fun m hm hl=>h3 m ?_ fun v hv=>hl v (by simp [hv])⟩
  · split at h1<;>rename_i h<;>split<;>omega
  · rcases cY.1 hv with rfl | hv
    · split at h1<;>rename_i h<;>split<;>omega
    · exact h2 v hv
  · have:=hl x (by simp)
    split<;>omega
structure gD (c:Cl):Prop where
 head:bG 26 c.1
 body:∀t∈c.2,bG 26 t∧t.k=3
theorem gD.vars{c:Cl}(h:gD c){v:Int}:v∈bT (c.1::c.2) []↔∃t∈c.1::c.2,v∈t.vl:=by
 rw[yF]
 · simp
 · intro t ht
   rcases cY.1 ht with rfl | ht
   · exact h.head.1.2.1
   · exact(h.body t ht).1.1.2.1
theorem gD.FD{c:Cl}(h:gD c):∀t∈c.1::c.2,bG 26 t:=fun t ht=>by
 rcases cY.1 ht with rfl | ht
 · exact h.head
 · exact(h.body t ht).1
theorem gD.fr{c:Cl}(h:gD c):pD c≤26∧∀t∈c.1::c.2,∀v∈t.vl,v<(pD c:Int):=by
 obtain⟨h1,h2,h3⟩:=aLS (bT (c.1::c.2) []) 0
 have hle:=h3 26 (by omega) fun v hv=>by
  obtain⟨t,ht,hv⟩:=h.vars.1 hv
  exact((h.FD t ht).1.2.2 v hv).2
 unfold pD H5
 refine⟨by omega,fun t ht v hv=>?_⟩
 have:=h2 v (h.vars.2 ⟨t,ht,hv⟩)
 omega
theorem gD.dG{c:Cl}(h:gD c)(N:Nat):∀t∈c.1::c.2,bG ((N+pD c:Nat):Int) (dG N t):=fun t ht=>by
 refine(h.FD t ht).b9 fun v hv=>?_
 have h1:=((h.FD t ht).1.2.2 v hv).1
 have h2:=h.fr.2 t ht v hv
 omega
theorem U8{ρ:Int→Int}{N F:Nat}{c:Cl}(h:gD c):∀t∈c.1::c.2,b9 (t8 ρ N F) (dG N t)=dG F t:=fun t ht=>by
 unfold AW.dG
 rw[show b9 (t8 ρ N F) (b9 (fun v=>v+(N:Int)) t)=t.aM fun v=>vr (t8 ρ N F (v+N)) from JD _ _ t]
 refine pI t fun v hv=>?_
 have h1:=((h.FD t ht).1.2.2 v hv).1
 show vr (t8 ρ N F (v+(N:Int)))=vr (v+(F:Int))
 unfold t8
 rw[aE (by omega)]
 congr 1
 omega
theorem aPI{N:Nat}(t:Tm):(dG N t).k=t.k:=AC _ t
def GL(ρ:Int→Int)(N:Nat)(gs:List RG)(hs:List IG):Prop:=hs.map (fun h=>(h.t,h.cut))=gs.map (fun g=>(b9 ρ g.t,g.aV))∧∀g∈gs,bG N g.t∧g.t.k=3
theorem GL.ext{ρ ρ':Int→Int}{N N':Nat}{gs:List RG}{hs:List IG}(h:GL ρ N gs hs)(hN:N≤N')(hr:∀v,0≤v→v<(N:Int)→ρ' v=ρ v):GL ρ' N' gs hs:=by
 refine⟨h.1.trans (qU fun g hg=>?_),fun g hg=>⟨(h.2 g hg).1.mono (by omega),(h.2 g hg).2⟩⟩
 rw[UX (ρ:=ρ) (ρ':=ρ') fun v hv=>(hr v ((h.2 g hg).1.1.2.2 v hv).1 ((h.2 g hg).1.1.2.2 v hv).2).symm]
theorem GL.app{ρ:Int→Int}{N:Nat}{gs gs':List RG}{hs hs':List IG}(h:GL ρ N gs hs)(h':GL ρ N gs' hs'):GL ρ N (gs++gs') (hs++hs'):=by
 refine⟨by rw[o7,o7,h.1,h'.1],fun g hg=>?_⟩
 rcases eH.1 hg with hg | hg
 · exact h.2 g hg
 · exact h'.2 g hg
def C1(F:Nat)(c:RC)(d:IC)(τ:Sub):Prop:=∃ρ,o9 ρ c.N F c.σ τ∧d.goal=b9 ρ c.goal∧bG c.N c.goal∧GL ρ c.N c.rest d.rest∧d.list=c.left
inductive iS (F:Nat):List RC→List IC→Sub→List Int→Prop
 | nil {τ:Sub} {tr:List Int}:iS F [] [] τ tr
 | snoc {cs:List RC} {ds:List IC} {c:RC} {d:IC} {τ:Sub} {tr:List Int} (h:iS F cs ds (τ.out (tr.drop d.eY)) (tr.take d.eY)) (h1:C1 F c d (τ.out (tr.drop d.eY))) (h2:d.eY≤tr.length):iS F (cs++ [c]) (ds++ [d]) τ tr
theorem iS.len{F:Nat}{cs:List RC}{ds:List IC}{τ:Sub}{tr:List Int}(h:iS F cs ds τ tr):ds.length=cs.length:=by
 induction h with
 | nil=>rfl
 | snoc _ _ _ ih=>simp [ih]
theorem iS.mono{F F':Nat}(hF:F≤F'){cs:List RC}{ds:List IC}{τ:Sub}{tr:List Int}(h:iS F cs ds τ tr):iS F' cs ds τ tr:=by
 induction h with
 | nil=>exact .nil
 | snoc _ h1 h2 ih=>exact .snoc ih (by obtain⟨ρ,h3,h4⟩:=h1;exact⟨ρ,h3.mono hF,h4⟩) h2
theorem aZW(tr:List Int){a m:Nat}(h:a≤m)(n:Int):n∈tr.drop m++(tr.take m).drop a↔n∈tr.drop a:=by
 have e:tr.drop a=(tr.take m).drop a++tr.drop m:=by
  conv=>lhs;rw[←pT m tr]
  rw[List.drop_append]
  by_cases hm:m≤tr.length
  · rw[c7,kZ hm,show a - m=0 by omega,r8]
  · rw[List.drop_of_length_le (show tr.length≤m by omega)]
    simp
 rw[e,eH,eH,or_comm]
theorem iS.lift{F:Nat}{cs:List RC}{ds:List IC}{τ:Sub}{tr:List Int}{m:Nat}(h:iS F cs ds (τ.out (tr.drop m)) (tr.take m))(hm:m≤tr.length):iS F cs ds τ tr:=by
 generalize hτ:τ.out (tr.drop m)=τ' at h
 generalize htr:tr.take m=tr' at h
 cases h with
 | nil=>exact .nil
 | @snoc cs ds c d _ _ h h1 h2=>
  subst hτ htr
  have hd:d.eY≤m:=by rw[c7] at h2;omega
  have e1:(τ.out (tr.drop m)).out ((tr.take m).drop d.eY)=τ.out (tr.drop d.eY):=by
   rw[Sub.a8D]
   exact Sub.a8E τ (aZW tr hd)
  have e2:(tr.take m).take d.eY=tr.take d.eY:=by rw[yP,kZ hd]
  rw[e1,e2] at h
  rw[e1] at h1
  exact .snoc h h1 (by omega)
theorem iS.more{F:Nat}{cs:List RC}{ds:List IC}{τ τ':Sub}{tr add:List Int}(h:iS F cs ds τ tr)(e:τ'.out add=τ):iS F cs ds τ' (tr++add):=by
 refine iS.lift (m:=tr.length) ?_ (by simp)
 rw[DG,GV,e]
 exact h
theorem iS.take{F:Nat}{cs:List RC}{ds:List IC}{τ:Sub}{tr:List Int}(h:iS F cs ds τ tr)(k:Nat):iS F (cs.take k) (ds.take k) τ tr:=by
 induction h with
 | nil=>simp;exact .nil
 | @snoc cs ds c d τ tr h h1 h2 ih=>
  have hl:=h.len
  by_cases hk:k≤cs.length
  · rw[DJ hk,DJ (by omega)]
    exact ih.lift h2
  · rw[lM (by simp;omega),lM (by simp;omega)]
    exact .snoc h h1 h2
def Rl(s:RS)(i:IS):Prop:=∃ρ,o9 ρ s.N i.fresh s.σ i.σ∧GL ρ s.N s.goals i.goals∧iS i.fresh s.chs i.chs i.σ i.tr
theorem BC.CJ{N:Int}{σ:Sub}{a b:Tm}{r:Bool}{σ':Sub}{tr:List Int}(h:BC N σ a b r σ' tr):σ'.out tr=σ:=funext fun n=>h.out n
theorem nM.CJ{N:Int}{σ σ':Sub}{add:List Int}(h:nM N σ σ' add):σ'.out add=σ:=by
 funext n
 unfold Sub.out
 split
 · rename_i hn;exact((h.new n hn).1).symm
 · rename_i hn;exact h.aV n hn
theorem nM.xD{N:Nat}{σ σ':Sub}{add:List Int}(h:nM N σ σ' add)(hd:∀n,¬(0≤n∧n<(N:Int))→σ n=none):∀n,¬(0≤n∧n<(N:Int))→σ' n=none:=fun n hn=>by
 rw[h.aV n fun h'=>hn (h.gB n h')]
 exact hd n hn
theorem o9.grow{ρ:Int→Int}{N F:Nat}{σ τ σ' τ':Sub}{add aTR:List Int}(S:o9 ρ N F σ τ)(h:nM N σ σ' add)(h':nM F τ τ' aTR)(s:fM ρ N σ' τ'):o9 ρ N F σ' τ':=
 ⟨s,S.rng,h.gY,h.ok,h'.gY,h'.ok,h.xD S.d1,h'.xD S.d2,S.h26,S.idn⟩
theorem o9.CN{ρ:Int→Int}{N F:Nat}{σ τ:Sub}(S:o9 ρ N F σ τ){t:Tm}(h:bG N t):bG F (b9 ρ t):=h.b9 fun v hv=>S.rng v (h.1.2.2 v hv).1 (h.1.2.2 v hv).2
section
variable {p:List Cl} (hp:∀c∈p,gD c)
include hp
theorem O0{cs:List RC}{goal:Tm}{rest:List RG}{σ:Sub}{N:Nat}{ρ:Int→Int}{UZ:List IG}{τ:Sub}{tr:List Int}{ds:List IC}{nn at':Nat}(hg:bG N goal)(hr:GL ρ N rest UZ) :
 ∀(l:List Nat) (F:Nat) (gl:List IG),o9 ρ N F σ τ→iS F cs ds τ tr →
 match iZ p cs goal rest σ N l with
 | none=>∃F',F≤F'∧fR p (b9 ρ goal) at' UZ l ⟨gl,τ,tr,ds,F,nn⟩=(false,⟨gl,τ,tr,ds,F',nn⟩)
 | some s=>∃i,fR p (b9 ρ goal) at' UZ l ⟨gl,τ,tr,ds,F,nn⟩=(true,i)∧Rl s i:=by
 intro l
 induction l with
 | nil=>intro F gl S C;exact⟨F,cU _,rfl⟩
 | cons j l ih=>
  intro F gl S C
  unfold iZ fR
  cases hj:p[j]? with
  | none=>exact⟨F,cU _,rfl⟩
  | some x=>
   have hx:=hp x (cH hj)
   have S2:=S.ext hx.fr.1
   have hgo:b9 (t8 ρ N F) goal=b9 ρ goal:=UX fun v hv=>vP (hg.1.2.2 v hv).2
   have hhd:=hx.dG N x.1 (by simp)
   have hgN:bG ((N+pD x:Nat):Int) goal:=hg.mono (by omega)
   obtain⟨r,σ',add,U⟩:=uZ S2.g1 S2.o1 hgN hhd
   obtain⟨g,hH⟩:=U.run
   obtain⟨τ',e,S',_⟩:=S2.sim.jN S2.g1 S2.g2 S2.o1.mN hgN.1 hhd.1 hH
   rw[hgo,U8 hx x.1 (by simp)] at e
   have hF1:bG ((F+26:Nat):Int) (b9 ρ goal):=by rw[←hgo];exact S2.CN hgN
   have hF2:bG ((F+26:Nat):Int) (dG F x.1):=by rw[←U8 (ρ:=ρ) (N:=N) (F:=F) hx x.1 (by simp)];exact S2.CN hhd
   obtain⟨r2,τ2,aTS,U2⟩:=uZ S2.g2 S2.o2 hF1 hF2
   have e2:=U2.eq
   rw[e] at e2
   obtain⟨rfl,rfl,rfl⟩:r=r2∧τ'=τ2∧add.map (t8 ρ N F)=aTS:=by simpa using e2
   simp only[U.eq,e]
   cases r with
   | false=>
    simp only[fX,dT]
    have:=ih (F+26) gl (S.mono (by omega)) (C.mono (by omega))
    cases hq:iZ p cs goal rest σ N l with
    | none=>
     rw[hq] at this
     obtain⟨F',h1,h2⟩:=this
     exact⟨F',by omega,h2⟩
    | some s=>
     rw[hq] at this
     exact this
   | true=>
    simp only[eX]
    refine⟨_,rfl,t8 ρ N F,S2.grow U.x7 U2.x7 S',?_,?_⟩
    · refine GL.app ⟨?_,fun g hg=>?_⟩ (hr.ext (show N≤N+pD x by omega) fun v _ hv=>vP hv)
      · simp only[pR]
        refine qU fun t ht=>?_
        simp only[GP]
        rw[U8 hx t (by simp [ht]),C.len]
      · obtain⟨t,ht,rfl⟩:=cB.1 hg
        exact⟨hx.dG N t (by simp [ht]),by rw[aPI];exact(hx.body t ht).2⟩
    · have C2:=(C.mono (show F≤F+26 by omega)).more U2.CJ
      by_cases hl:l= []
      · simp only[aG hl]
        exact C2
      · simp only[aE hl]
        refine .snoc ?_ ?_ (by simp)
        · simp only[DG,GV,U2.CJ]
          exact C.mono (by omega)
        · simp only[DG,U2.CJ]
          exact⟨ρ,S.mono (by omega),rfl,hg,hr,rfl⟩
theorem QJ:∀(n:Nat) (cs:List RC) (i:IS),iS i.fresh cs i.chs i.σ i.tr →
 match fS p n cs with
 | none=>gS p n i=none
 | some s=>∃i',gS p n i=some i'∧Rl s i':=by
 intro n
 induction n with
 | zero=>intro cs i C;simp only[fS,gS]
 | succ n ih=>
  intro cs i C
  obtain⟨gl,τ,tr,ds,F,nn⟩:=i
  simp only at C
  cases C with
  | nil=>simp only[fS,gS,List.getLast?_nil]
  | @snoc cs ds c d _ _ h h1 h2=>
   obtain⟨ρ,S,e1,hok,hG,e2⟩:=h1
   have key:=O0 hp (cs:=cs) (nn:=d.taken) (at':=d.node) (tr:=tr.take d.eY) hok hG c.left F gl S h
   simp only[fS,gS,List.getLast?_append,List.getLast?_singleton,Option.some_or,PG]
   have e3:(IS.pop ⟨gl,τ,tr,ds++ [d],F,nn⟩ d)=⟨gl,τ.out (tr.drop d.eY),tr.take d.eY,ds,F,d.taken⟩:=by simp only[IS.pop,PG]
   rw[e1,e2,e3]
   cases ht:iZ p cs c.goal c.rest c.σ c.N c.left with
   | none=>
    rw[ht] at key
    obtain⟨F',hF,e⟩:=key
    simp only[e,fX,dT]
    exact ih cs _ (h.mono hF)
   | some s=>
    rw[ht] at key
    obtain⟨i',e,hR⟩:=key
    simp only[e,eX]
    exact⟨i',rfl,hR⟩
variable {cnd:Tm→List Nat→List Nat} (hc:∀(ρ:Int→Int) (t:Tm) (l:List Nat),cnd (b9 ρ t) l=cnd t l)
omit hp in
theorem aO1{ρ:Int→Int}{t:Tm}(h:t.k=3):(b9 ρ t).s=t.s∧(b9 ρ t).ts=t.ts.map (b9 ρ)∧(b9 ρ t).k=3:=by
 rw[FP ρ (by omega)]
 exact⟨rfl,rfl,h⟩
omit hp in
theorem a27{ρ:Int→Int}{t:Tm}(h:t.k=3):eJ p (b9 ρ t)=eJ p t:=by
 obtain⟨h1,h2,_⟩:=aO1 (ρ:=ρ) h
 unfold eJ IE
 simp only[h1,h2,aF]
include hc
theorem aPZ{s:RS}{i:IS}{g:RG}{gs:List RG}(hR:Rl s i)(hgs:s.goals=g::gs) :
 ∃h hs,i.goals=h::hs∧match iY p cnd s g gs with
 | .stop e=>mJ p cnd i h hs=.stop e
 | .go s'=>∃i',mJ p cnd i h hs=.go i'∧Rl s' i'
 | .fail=>∃i',mJ p cnd i h hs=.fail i'∧iS i'.fresh s.chs i'.chs i'.σ i'.tr:=by
 obtain⟨ρ,S,hG,C⟩:=hR
 rw[hgs] at hG
 obtain⟨gl,τ,tr,ds,F,nn⟩:=i
 simp only at S hG C ⊢
 cases gl with
 | nil=>exact absurd hG.1 (by simp)
 | cons h hs=>
  refine⟨h,hs,rfl,?_⟩
  have hGt:GL ρ s.N gs hs:=⟨(List.cons.inj hG.1).2,fun x hx=>hG.2 x (by simp [hx])⟩
  have he:=(List.cons.inj hG.1).1
  simp only[Prod.mk.injEq] at he
  obtain⟨e1,e2⟩:=he
  obtain⟨hgX,hg3⟩:=hG.2 g (by simp)
  have hT:=S.sim.rsT S.g1 S.g2 S.o1.mN hgX.1
  obtain⟨rk,B,G⟩:=S.g1.rs
  have hV:=G.UD S.o1.mN hgX.1
  unfold iY mJ
  simp only[e1,hT]
  have ht3:(g.t.aM (rs s.σ)).k=3:=by rw[Tm.rO _ (by omega)];exact hg3
  generalize g.t.aM (rs s.σ)=t at *
  obtain⟨r1,r2,r3⟩:=aO1 (ρ:=ρ) ht3
  have eR:eQ (b9 ρ t)=eQ t:=by unfold eQ;rw[UY ρ hV.2.1,NS ρ hV.2.1]
  have zP:sM (b9 ρ t)=sM t:=by unfold sM;rw[r1,r2,r3,ht3,aF]
  simp only[eR,zP,a27 (p:=p) (ρ:=ρ) ht3,hc,r1,r2,aF]
  by_cases c1:eQ t=false
  · rw[aG c1,aG c1]
  rw[aE c1,aE c1]
  have hX:bG s.N t:=⟨hV,by
   have:eQ t=true:=by simpa using c1
   unfold eQ at this
   simp only[bV,bK] at this
   exact this.2⟩
  by_cases c2:sM t=true
  · rw[aG c2,aG c2]
    refine⟨_,rfl,ρ,S,hGt,?_⟩
    simp only[e2]
    exact C.take g.aV
  rw[aE c2,aE c2]
  by_cases c3:isBuiltin t.s (t.ts.length:Int)=true
  · rw[aG c3,aG c3]
    have hk:∀x∈t.ts,bG s.N x:=rP _ t (by omega) hX
    obtain⟨q1,q2,q3⟩:=S.sim.dE S.g1 S.g2 S.o1 t.s t.ts hk
    have q4:=NW S.g1 S.o1 t.s t.ts hk
    have q5:=NW S.g2 S.o2 t.s (t.ts.map (b9 ρ)) (fun x hx=>by
     obtain⟨y,hy,rfl⟩:=cB.1 hx
     exact S.CN (hk y hy))
    rw[q1]
    by_cases c4:(dE s.σ t.s t.ts).1=0
    · rw[aG c4,aG c4]
      exact⟨_,rfl,ρ,S.grow q4 q5 q3,hGt,C.more q5.CJ⟩
    rw[aE c4,aE c4]
    by_cases c5:(dE s.σ t.s t.ts).1=1
    · rw[aG c5,aG c5]
      exact⟨_,rfl,C.more q5.CJ⟩
    rw[aE c5,aE c5]
  rw[aE c3,aE c3]
  by_cases c6:eJ p t= []
  · rw[aG c6,aG c6]
  rw[aE c6,aE c6]
  have key:=O0 hp (at':=nn) (nn:=nn+1) hX hGt (cnd t (eJ p t)) F (h::hs) S C
  cases hq:iZ p s.chs t gs s.σ s.N (cnd t (eJ p t)) with
  | none=>
   rw[hq] at key
   obtain⟨F',hF,e⟩:=key
   simp only[e,fX,dT]
   exact⟨_,rfl,C.mono hF⟩
  | some s'=>
   rw[hq] at key
   obtain⟨i',e,hR⟩:=key
   simp only[e,eX]
   exact⟨i',rfl,hR⟩
end
theorem aRU{ρ:Int→Int}{N:Int}{σ τ:Sub}(S:fM ρ N σ τ):∀(l:List Tm) (acc:List Int),(∀t∈l,cJ N t)→(∀v∈acc,0≤v∧v<N)→bT (l.map (b9 ρ)) (acc.map ρ)=(bT l acc).map ρ∧∀v∈bT l acc,0≤v∧v<N
 | [],acc,_,ha=>⟨rfl,ha⟩
 | t::l,acc,h,ha=>by
  obtain⟨e1,e2⟩:=aSD (D:=fun v=>0≤v∧v<N) (h:=ρ) (fun v w hv hw e=>S.inj v w hv.1 hv.2 hw.1 hw.2 e) (f:=fun v=>vr (ρ v)) (fun _ _=>rfl) t (Tm.tZ t (h t (by simp)).2.1) (h t (by simp)).2.2 acc ha
  simp only[bA,bT]
  rw[show(b9 ρ t).vars (acc.map ρ)=(t.vars acc).map ρ from e1]
  exact aRU S l _ (fun x hx=>h x (by simp [hx])) e2
theorem a9J{ρ:Int→Int}{N:Int}{σ τ:Sub}(S:fM ρ N σ τ){l:List Tm}(h:∀t∈l,cJ N t):lB (l.map (b9 ρ))=lB l∧(bT (l.map (b9 ρ)) []).length=(bT l []).length:=by
 obtain⟨e1,e2⟩:=aRU S l [] h (by simp)
 rw[aY] at e1
 refine⟨?_,by rw[e1,aF]⟩
 unfold lB
 rw[e1,pR]
 refine qU fun t ht=>?_
 simp only[GP]
 rw[JD]
 refine pI t fun v hv=>?_
 rw[TP (D:=fun v=>0≤v∧v<N) (fun v w hv hw e=>S.inj v w hv.1 hv.2 hw.1 hw.2 e) v ((h t ht).2.2 v hv) _ _ e2]
theorem aTV{ρ:Int→Int}{N F:Nat}{σ τ:Sub}(S:o9 ρ N F σ τ){vars:List Int}(hv:∀v∈vars,0≤v∧v<26):jD τ vars=jD σ vars:=by
 obtain⟨rk,B,G⟩:=S.g1.rs
 have hid:=S.idn
 have h26:=S.h26
 have e:vars.map (rs τ)=(vars.map (rs σ)).map (b9 ρ):=by
  rw[pR]
  refine qU fun v h=>?_
  obtain⟨h0,h1⟩:=hv v h
  have:=S.sim.rs S.g1 S.g2 S.o1.mN v h0 (by omega)
  rw[hid v h0 h1] at this
  exact this
 have hok:∀t∈vars.map (rs σ),cJ N t:=fun t ht=>by
  obtain⟨v,h,rfl⟩:=cB.1 ht
  obtain⟨h0,h1⟩:=hv v h
  exact G.mN S.o1.mN v h0 (by omega)
 obtain⟨e1,e2⟩:=a9J S.sim hok
 have e3:((vars.map (rs σ)).map (b9 ρ)).all eQ=(vars.map (rs σ)).all eQ:=by
  rw[List.all_map,wK,dW,dW]
  have:∀t∈vars.map (rs σ),eQ (b9 ρ t)=eQ t:=fun t ht=>by unfold eQ;rw[UY ρ (hok t ht).2.1,NS ρ (hok t ht).2.1]
  constructor
  · intro h t ht;rw[←this t ht];exact h t ht
  · intro h t ht;simp only[GP];rw[this t ht];exact h t ht
 unfold jD
 rw[e,e1,e2,e3]
section
variable {p:List Cl} (hp:∀c∈p,gD c) {cnd:Tm→List Nat→List Nat} (hc:∀(ρ:Int→Int) (t:Tm) (l:List Nat),cnd (b9 ρ t) l=cnd t l)
include hp hc
theorem a9T{vars:List Int}(hv:∀v∈vars,0≤v∧v<26):∀(n most fuel:Nat) (s:RS) (i:IS),most+fuel≤n→Rl s i→jU p cnd vars most fuel i=iP p cnd vars most fuel s:=by
 intro n
 induction n with
 | zero=>
  intro most fuel s i hn hR
  obtain⟨rfl,rfl⟩:most=0∧fuel=0:=by omega
  obtain⟨ρ,S,hG,C⟩:=hR
  rw[jU,iP]
  cases hgs:s.goals with
  | nil=>
   rw[hgs] at hG
   have hi:i.goals= []:=List.map_eq_nil_iff.1 hG.1
   simp [hi]
  | cons g gs=>
   rw[hgs] at hG
   cases hi:i.goals with
   | nil=>rw[hi] at hG;exact absurd hG.1 (by simp)
   | cons h hs=>simp
 | succ n ih=>
  intro most fuel s i hn hR
  cases hgs:s.goals with
  | nil=>
   obtain⟨ρ,S,hG,C⟩:=hR
   rw[hgs] at hG
   have hi:i.goals= []:=List.map_eq_nil_iff.1 hG.1
   rw[jU,iP]
   simp only[hgs,hi]
   by_cases hm:most=0
   · simp [hm]
   simp only[hm,dif_neg,I3]
   rw[aTV S hv]
   cases jD s.σ vars with
   | none=>rfl
   | some a=>
    simp only
    have key:=QJ hp s.chs.length s.chs i C
    rw[C.len]
    cases hb:fS p s.chs.length s.chs with
    | none=>rw[hb] at key;simp only[key]
    | some s'=>
     rw[hb] at key
     obtain⟨i',e,hR'⟩:=key
     simp only[e]
     rw[ih (most - 1) fuel s' i' (by omega) hR']
  | cons g gs=>
   obtain⟨h,hs,hi,key⟩:=aPZ hp hc hR hgs
   rw[jU,iP]
   simp only[hgs,hi]
   by_cases hf:fuel=0
   · simp [hf]
   simp only[hf,dif_neg,I3]
   cases hq:iY p cnd s g gs with
   | stop e=>
    rw[hq] at key
    simp only[key]
   | go s'=>
    rw[hq] at key
    obtain⟨i',e,hR'⟩:=key
    simp only[e]
    exact ih most (fuel - 1) s' i' (by omega) hR'
   | fail=>
    rw[hq] at key
    obtain⟨i',e,C'⟩:=key
    simp only[e]
    have NA:=QJ hp s.chs.length s.chs i' C'
    rw[C'.len]
    cases hb:fS p s.chs.length s.chs with
    | none=>rw[hb] at NA;simp only[NA]
    | some s'=>
     rw[hb] at NA
     obtain⟨i'',e2,hR'⟩:=NA
     simp only[e2]
     exact ih most (fuel - 1) s' i'' (by omega) hR'
omit hp hc in
theorem aPY{q:List Tm}(hq:∀t∈q,bG 26 t∧t.k=3):Rl (lU q) (pF q):=by
 refine⟨fun v=>v,⟨⟨fun v w _ _ _ _ e=>e,fun v _ _=>rfl⟩,fun v h0 h1=>⟨h0,h1⟩,cQ.none,fun n u h=>(by cases h),cQ.none,fun n u h=>(by cases h),fun _ _=>rfl,fun _ _=>rfl,cU _,fun _ _ _=>rfl⟩,⟨?_,fun g hg=>?_⟩,.nil⟩
 · simp only[pF,lU,pR]
   refine qU fun t ht=>?_
   simp only[GP]
   rw[show b9 (fun v=>v) t=t from I0 t (hq t ht).1.1.2.1]
 · simp only[lU] at hg
   obtain⟨t,ht,rfl⟩:=cB.1 hg
   exact hq t ht
theorem bAN{q:List Tm}(hq:∀t∈q,bG 26 t∧t.k=3)(most fuel:Nat):jU p cnd (bT q []) most fuel (pF q)=wA p cnd q most fuel:=by
 refine a9T hp hc (fun v hv=>?_) _ most fuel _ _ (cU _) (aPY hq)
 rw[yF _ _ fun t ht=>(hq t ht).1.1.2.1] at hv
 rcases hv with hv | ⟨t,ht,hv⟩
 · cases hv
 · exact(hq t ht).1.1.2.2 v hv
end
theorem aZH{c:Cl}(h:lS c=true):gD c:=by
 simp only[lS,bV,bK,dW] at h
 refine⟨⟨Tm.KG h.1.1,Tm.C8 h.1.1⟩,fun t ht=>?_⟩
 have hg:=h.2.2 t ht
 have hk:t.valid=true∧t.k=3:=by
  obtain⟨k,n,s,ts⟩:=t
  simp only[Tm.goal,bV] at hg
  refine⟨hg.1,?_⟩
  have:=hg.2
  simp only[zL,rR,oZ,bV,bK] at this
  simp only[Tm.k]
  rcases this with (h | h) | h<;>first | exact h.1 | exact h.1.1 | exact h.1.1.1
 exact⟨⟨Tm.KG hk.1,Tm.C8 hk.1⟩,hk.2⟩
end Go.AW
namespace Go.AW
open Go.Proofs.Tryz
abbrev bU (l:List Tm):AV:=.agg [.slice (l.map Tm.av)]
theorem Tm.SC{t:Tm}(h:t.goal=true):t.valid=true:=by
 cases t;simp only[Tm.goal,bV] at h;exact h.1
theorem a8Z{q:List Tm}(h:g8 q=true):(∀t∈q,t.valid=true)∧q.length≤6:=by
 simp only[g8,bV,bK,dW] at h
 exact⟨fun t ht=>Tm.SC (h.2 t ht),h.1⟩
theorem aOT{q:List Tm}(h:g8 q=true):bB Tm.nodes q≤1099511627776:=by
 obtain⟨h1,h2⟩:=a8Z h
 have:=bAR h1
 omega
def uA(q AX:List Tm):Bool:=g8 q&&decide (AX.length=(bT q []).length)&&AX.all Tm.valid
theorem aNF(v:Int):∀(l:List Int) (i:Int),v∈l→∃j:Nat,eC v l i=i+j∧j<l.length∧l[j]?=some v∧∀k:Nat,k<j→l[k]?≠some v
 | [],i,h=>by simp at h
 | x::xs,i,h=>by
  simp only[eC]
  by_cases e:v=x
  · exact⟨0,by rw[aG e];simp,by simp,by simp [e],fun k hk=>absurd hk (Nat.not_lt_zero k)⟩
  · obtain⟨j,h1,h2,h3,h4⟩:=aNF v xs (i+1) (by simpa [e] using h)
    refine⟨j+1,by rw[aE e,h1];omega,by simp;omega,by simpa using h3,fun k hk=>?_⟩
    cases k with
    | zero=>simp;exact fun h=>e h.symm
    | succ k=>simpa using h4 k (by omega)
abbrev N3:=zi aW (zi cF (zi fJ (zi cA tD)))
theorem aV5(AX q:List Tm)(st:aB):aD prog 56 [bU AX,.slice (q.map Tm.av)] st (fun r st'=>r=.bool (uA q AX)∧st'=st):=by
 refine wF [1000000] 2 func56 ntmps56 rfl rfl ?_
 simp only[eM,AV.fits,eS,aF]
 intro ⟨⟨hl,_⟩,⟨hl2,_⟩⟩
 unfold uA
 simp only[bU,aA,seval,N3]
 refine wP [(0,1),(1,2),(2,1),(3,1),(6,1),(4,1),(5,1),(7,0),(8,1),(9,1),(10,1),(11,1),(12,1),(13,2),(14,0),(15,1),(16,1)] [0,1,2,3,6,4,5,8,9,10,11,12,13,15,16] mixed ?_
 simp only[aA,seval]
 refine gP (QP q _) ?_
 simp only[aA,seval]
 refine cT (fun h=>?_) (fun h=>?_)
 case refine_2=>
  simp only[h,aA,seval]
  simp at h
  simp []
 simp only[h,aF,aA,seval,N3]
 refine(HP q _ (aOT h)).to ?_
 simp only[aF,aA,seval,N3]
 refine cT (fun h2=>?_) (fun h2=>?_)
 case refine_2=>
  simp only[h2,aA,seval]
  simp at h2
  rw[show decide (AX.length=(bT q []).length)=false by simp;omega,fF]
 simp only[h2,aA,seval,N3]
 refine(aVT AX _).to ?_
 simp only[aA,seval]
 simp at h2
 rw[show decide (AX.length=(bT q []).length)=true by simp;omega,dU]
theorem WU:∀(a b:List Tm) (l:List Int),bT (a++b) l=bT b (bT a l)
 | [],_,_=>rfl
 | t::a,b,l=>by simp only[gV,bT,WU a b]
abbrev VO:=zi aW (zi fJ (zi cA bR))
theorem aAE(q:List Tm)(st:aB)(hwf:∀t∈q,t.wf=true)(hsz:bB Tm.nodes q≤1099511627776):aD prog 133 [.slice (q.map Tm.av)] st (fun r st'=>r=.slice ((bT q []).map iv)∧st'=st):=by
 refine aD.done ?_
 refine wF [1000000] 1 func133 ntmps133 rfl rfl ?_
 simp only[eM,AV.fits,eS,aF]
 intro ⟨hl,_⟩
 simp only[aA,seval,VO]
 refine oW (σ:=Unit) [1000000] [0,2] q 1 3 (fun i _=>(bT (q.take i) []).map iv) (fun _ _=>True) (fun i _=>[(4,.int .i64 i)]) (fun _ _=>st) (fun i _ _ e he=>by simp only[cB] at he;obtain⟨t,_,rfl⟩:=he;exact⟨rfl,rfl⟩) (by decide +kernel) ⟨(),0,trivial,fun h=>absurd rfl h,aO.mk (by simp only[iV,jA,bT,aY,aA,↓aS,seval])⟩ (fun i x s b hx hlt bL hdr hinv hb=>?_) (fun s b hge hinv=>?_)
 case refine_2=>
  simp only[hge,eW,iO,nS,kJ,dS,aF,aA,seval,VO]
  exact⟨rfl,aL.refl _⟩
 have hw:=bF (n:=(i:Int)+1)
 have hat:=bH (av:=Tm.av) bQ hx (aN x)
 have hst:=JM Tm.nodes hx
 have hvl:=AT (q.take i) []
 simp only[aZ,gZ] at hvl
 have htk:x.vars (bT (q.take i) [])=bT (q.take (i+1)) []:=by
  rw[dY,hx,WU]
  try rfl
 simp only[bL,aF,hat,aA,seval,VO]
 refine(HN x (bT (q.take i) []) b st (hwf x (cH hx)) hb (by omega)).mono ?_
 rintro _ _ ⟨b',rfl,rfl,hb'⟩
 rw[htk] at hb' ⊢
 simp only[aA,seval]
 exact⟨(),b',hb',aO.mk (by simp only[hw,aA,seval])⟩
end Go.AW
namespace Go.AW
theorem QI{P:Program}{N:Nat}{x y:Code}{Q:Exit→AF→aB→Prop}{φ:AF}{st:aB}(e:fK P N x (GA (fK P N y Q) Q) φ st):fK P N (.seq x y) Q φ st:=fun a w R=>by
 refine wp_seq (wp_mono (e a w R) ?_)
 rintro ex a' w' ⟨φ',st',R',T,s,q⟩
 cases ex with
 | normal=>exact wp_mono (q a' w' R') fun _ _ _ h=>h.mono T s
 | _=>exact⟨φ',st',R',T,s,q⟩
theorem aTN{P:Program}{g:FuncId}{fn:Func}{c:Code}{args:List AV}{st:aB}{N:Nat}{rs:List ResultVar}{K:AV→aB→Prop}(hf:P.funcs[g]?=some fn)(hN:fn.ntmps=N)(hr:fn.results=rs.toArray)(hb:fn.body=some c)(hn:(fn.name == "runtime.NumGoroutine")=false)
 (rG:args.length≤N) (e:eM args→fK P N c (FQ P rs.toArray K) (sG 0 args) st):aD P g args st K:=by
 subst hN
 rw[←hr] at e
 refine⟨⟨fn,hf,by simp [hb],hn⟩,fun w vs S V=>?_⟩
 have e:=e V.fits
 have hl:=V.length
 have R:Rel fn.ntmps { tmps:=vs.toArray++Array.replicate (fn.ntmps - vs.toArray.size) undef,defers:=[] } w (sG 0 args) st:=by
  refine⟨by simp;omega,rfl,QG args vs 0 V fun j v hj=>?_,S⟩
  obtain⟨hjl,hjv⟩:=fA.1 hj
  simp [Array.getElem?_append,hjl,hjv]
 refine calls_of_wp hf hb (wp_mono (e _ w R) ?_)
 rintro ex a' w' ⟨φ',st',R',T,s,q⟩
 have fin:(match pV P φ' st' fn.results.toList with | some xs=>GG K st' xs | none=>False)→a'.defers= []∧∃v,(results fn a'.tmps).run P w'=.ok v w' ∧
  (∃v2 r st2,(Ending.returned v)=.returned v2∧aQ w'.heap st2 r v2∧cS w'.heap st2∧bX w.heap st w'.heap st2∧fC w w'∧K r st2):=by
  intro q
  split at q
  · rename_i xs hx
    obtain⟨v,r,r1,r2,r3⟩:=aO3 R'.frame R'.store hx q
    exact⟨R'.defers,v,r1,v,r,st',rfl,r2,R'.store,T,s,r3⟩
  · cases q
 cases ex with
 | normal=>exact fin q
 | ret=>exact fin q
 | _=>exact q.elim
theorem aQ.bAD{h:bJ}{st:aB}{es:List AV}{v:Value}(y:aQ h st (.slice es) v):∃a n c,v=.slice a n c∧(es≠[]→a.isNone=false):=by
 obtain⟨y0,y1⟩:=y
 have hv:v.cells.toList= [v]:=by cases v<;>first | rfl | (simp [AV.isAgg,j8] at y0)
 unfold VC at y1
 rw[hv] at y1
 rcases y1 with ⟨⟨p,e⟩,rfl⟩ | ⟨b,off,cap,e,_⟩
 · exact⟨p,0,0,by simpa using e,fun h=>absurd rfl h⟩
 · exact⟨_,_,_,by simpa using e,fun _=>rfl⟩
theorem aUA{P:Program}{N:Nat}{id i d d':Nat}{t e ty ty' tx:TypeId}{pos pos':String}{aft sE:Array Edge}{es:List AV}{Q:Exit→AF→aB→Prop}{φ:AF}{st:aB}(ht:P.underlying t=some (.slice e))
 (hd:d<N) (hd':d'<N) (hx:φ i=.slice es) (k:∀c:Bool,(es≠[]→c=false)→Q .normal ((φ.aC d (.slice es)).aC d' (.bool c)) st) :
 fK P N (.region id #[⟨some d,.move (.tmp i),ty,pos,aft,none⟩,⟨some d',.binOp .eql t (.tmp d) (.const (.slice none 0 0)) tx,ty',pos',sE,none⟩] false) Q φ st:=fun a w R=>by
 refine wp_region_list ?_
 have hN:∀(j q:Nat),((#[⟨some d,.move (.tmp i),ty,pos,aft,none⟩,⟨some d',.binOp .eql t (.tmp d) (.const (.slice none 0 0)) tx,ty',pos',sE,none⟩]:Array Oper)[j]?).bind (·.dst)=some q→q<N:=by
  intro j q e
  match j with
  | 0=>simp at e;subst e;exact hd
  | 1=>simp at e;subst e;exact hd'
  | j+2=>simp at e
 refine sB (mt:=[]) (K:=fun φ' st'=>φ'=φ.aC d (.slice es)∧st'=st) hN (by simp [pB,hd]) R (by
  show φ.put (some d) (φ i)=_∧_
  rw[hx]
  exact⟨rfl,rfl⟩) ?_
 rintro a1 w1 _ _ R1 T1 s1 ⟨rfl,rfl⟩
 have y:=R1.frame d
 rw[AF.aJ] at y
 obtain⟨p,n,c,hv,hp⟩:=y.bAD
 have hv':a1.eval (.tmp d)=.slice p n c:=hv
 unfold wpList
 rw[aG (by rfl)]
 refine .inl ?_
 have hH:(execOp a1.eval ⟨some d',.binOp .eql t (.tmp d) (.const (.slice none 0 0)) tx,ty',pos',sE,none⟩).run P w1=.ok (.value (.bool p.isNone)) w1:=by
  simp only[execOp,hv']
  rw[show a1.eval (.const (.slice none 0 0))=.slice none 0 0 from rfl]
  simp [eqGuard_at_slice,Lib.run_eql_slice_nil w1 t e p n c 0 0 ht]
 simp only[Oper.wp,hH,Oper.upon]
 unfold wpList
 exact⟨_,_,R1.put (o:=⟨some d',.binOp .eql t (.tmp d) (.const (.slice none 0 0)) tx,ty',pos',sE,none⟩) (by simp [pB,hd']) (bX.refl _ _) R1.store aQ.lR,T1,s1,k _ hp⟩
def aR:AV→List Nat
 | .mslice b _ _ _=>[b]
 | _=>[]
def fW(st:aB)(w:Nat)(q:AV)(l:List AV):Prop:=
 (q=.fslice []∧l= [])∨∃b cs,q=.mslice b 0 l.length w∧st b=Option.some (.cells cs)∧cs.take (l.length*w)=l.flatMap AV.cells∧l.length*w≤cs.length
theorem fW.shape{st:aB}{w:Nat}{q:AV}{l:List AV}(h:fW st w q l):q.isAgg=false∧q.width=1∧q.cD=false∧q.cells= [q]∧q.storable=true:=by
 rcases h with ⟨rfl,_⟩ | ⟨b',cs,rfl,_⟩<;>exact⟨rfl,rfl,rfl,rfl,rfl⟩
theorem fW.aV{st st':aB}{w:Nat}{q:AV}{l:List AV}(h:fW st w q l)(hk:∀b∈aR q,st' b=st b):fW st' w q l:=by
 rcases h with h | ⟨b,cs,rfl,hb,h2⟩
 · exact .inl h
 · exact .inr ⟨b,cs,rfl,by rw[hk b (by simp [aR])];exact hb,h2⟩
theorem fW.some{st:aB}{w:Nat}{q:AV}{l:List AV}(h:fW st w q l):∀b∈aR q,∃cs,st b=Option.some (.cells cs):=by
 intro b hb
 rcases h with ⟨rfl,_⟩ | ⟨b',cs,rfl,hb',_⟩
 · simp [aR] at hb
 · simp only[aR,cY,dK,dQ] at hb;subst hb;exact⟨cs,hb'⟩
theorem fW.len{P:Program}{t e:TypeId}{st:aB}{w:Nat}{q:AV}{l:List AV}(h:fW st w q l)(hu:P.underlying t=Option.some (.slice e)):lP P t q=Option.some (.int .i64 (l.length:Int)):=by
 rcases h with ⟨rfl,rfl⟩ | ⟨b,cs,rfl,_⟩<;>simp only[lP,hu,aZ]
theorem fW.append{P:Program}{t:TypeId}{ag:Bool}{bytes w:Nat}{zs:List AV}{st:aB}{q:AV}{l:List AV}{x:AV}{K:AV→aB→Prop}(hI:eI P t=Option.some (ag,w))(hB:eB P t=Option.some bytes)(hZ:eZ P t=Option.some zs)(hz:zs.length=w)(hb8:bytes≤4096)
 (h:fW st w q l) (hx:x.width=w) (hxs:x.cells.all AV.storable=true) (hl:l.length≤1073741824)
 (hK:∀q' st',fW st' w q' (l++ [x])→(∀y,y∉aR q→y∉aR q'→st' y=st y)→(∀y∈aR q',y∈aR q∨st y=none)→K q' st'):jC P t st q (.fslice [x]) K:=by
 have eR:w7 w [x]:=by intro e he;simp only[cY,dK,dQ] at he;subst he;exact⟨hx,hxs⟩
 have zN:(l.length+1)*bytes≤140737488355328:=by
  have:=KR (show l.length+1≤1073741825 by omega) hb8
  omega
 have hxc:x.cells.length=w:=by rw[sJ,hx]
 unfold jC
 simp only[hI,hB,hZ,yV]
 refine⟨hz,eR,?_⟩
 rcases h with ⟨rfl,rfl⟩ | ⟨b,cs,rfl,hb,hcs,hcl⟩
 · simp only[aZ,aU,gZ] at zN ⊢
   refine⟨by omega,by omega,by simp,fun h=>by simp at h,fun _ b hb=>?_⟩
   refine hK _ _ (.inr ⟨b,x.cells,rfl,by rw[aB.aJ];simp,?_,?_⟩) (fun y _ hy=>?_) (fun y hy=>?_)
   · simp only[fB,aU,aZ,gZ,Nat.one_mul,qT,List.flatMap_nil,gM]
     rw[←hxc,dS]
   · simp only[fB,aU,aZ,gZ,Nat.one_mul]
     omega
   · simp only[aR,cY,dK,dQ] at hy
     rw[aB.aH _ _ hy]
   · simp only[aR,cY,dK,dQ] at hy
     subst hy;exact .inr hb
 · simp only[aU,aZ,gZ,hb]
   have jT:cs.take (l.length*w)++ [x].flatMap AV.cells=(l++ [x]).flatMap AV.cells:=by rw[hcs];simp
   have hlen:((l++ [x]).flatMap AV.cells).length=(l++ [x]).length*w:=by
    rw[←jT,dN,c7,kZ hcl]
    simp only[qT,List.flatMap_nil,gM,hxc,dN,aU,aZ]
    rw[tM];omega
   refine⟨trivial,zN,by omega,hcl,?_,fun b' hb'=>?_⟩
   · rw[jT]
     refine hK _ _ (.inr ⟨b,_,by simp,aB.aJ _ _ _,by rw[lM (by rw[hlen];exact cU _)],by rw[hlen];exact cU _⟩) (fun y hy _=>?_) (fun y hy=>.inl hy)
     simp only[aR,cY,dK,dQ] at hy
     rw[aB.aH _ _ hy]
   · rw[jT]
     refine hK _ _ (.inr ⟨b',_,by simp,aB.aJ _ _ _,by rw[lM (by rw[hlen];exact cU _)],by rw[hlen];exact cU _⟩) (fun y hy hy'=>?_) (fun y hy=>?_)
     · simp only[aR,cY,dK,dQ] at hy hy'
       rw[aB.aH _ _ hy']
       simp [aB.erase,hy]
     · simp only[aR,cY,dK,dQ] at hy
       subst hy;exact .inr hb'
def zE(k:Nat):AV→AV
 | .mslice b o _ w=>.mslice b o k w
 | a=>a
theorem fW.take{st:aB}{w:Nat}{q:AV}{l:List AV}(h:fW st w q l){k:Nat}(hk:k≤l.length)(hw:∀e∈l,e.width=w):fW st w (zE k q) (l.take k):=by
 rcases h with ⟨rfl,rfl⟩ | ⟨b,cs,rfl,hb,hcs,hcl⟩
 · exact .inl ⟨rfl,by simp⟩
 · have hlk:(l.take k).length=k:=by rw[c7];omega
   have h1:k*w≤l.length*w:=tN w hk
   refine .inr ⟨b,cs,by rw[hlk];try rfl,hb,?_,by rw[hlk];omega⟩
   rw[hlk]
   have h2:cs.take (k*w)=(cs.take (l.length*w)).take (k*w):=by rw[yP,kZ h1]
   rw[h2,hcs]
   have h3:l.flatMap AV.cells=(l.take k).flatMap AV.cells++(l.drop k).flatMap AV.cells:=by rw[←tL,pT]
   have h4:((l.take k).flatMap AV.cells).length=k*w:=by rw[mI (n:=w) (es:=l.take k) (fun e he=>hw e (mC he)),hlk]
   rw[h3,GW h4]
theorem FH(k:Nat)(q:AV):aR (zE k q)=aR q:=by cases q<;>rfl
theorem fW.at{st:aB}{w:Nat}{q:AV}{l:List AV}(h:fW st w q l)(hw:∀e∈l,e.width=w){i:Nat}{e:AV}(he:l[i]?=.some e) :
 ∃b cs,q=.mslice b 0 l.length w∧st b=.some (.cells cs)∧i*w+w≤cs.length∧(cs.drop (i*w)).take w=e.cells:=by
 obtain⟨hi,hei⟩:=fA.1 he
 rcases h with ⟨rfl,rfl⟩ | ⟨b,cs,rfl,hb,hcs,hcl⟩
 · simp at he
 · have h1:(i+1)*w≤l.length*w:=tN w hi
   rw[tM,Nat.one_mul] at h1
   refine⟨b,cs,rfl,hb,by omega,?_⟩
   have h2:l=l.take i++e::l.drop (i+1):=by rw[←hei,←qS hi,pT]
   have hA:((l.take i).flatMap AV.cells).length=i*w:=by
    rw[mI (n:=w) (es:=l.take i) (fun e he=>hw e (mC he)),c7,kZ (by omega)]
   have hE:e.cells.length=w:=by rw[sJ];exact hw e (cH he)
   have h3:(cs.drop (i*w)).take w=((cs.take (l.length*w)).drop (i*w)).take w:=by
    rw[List.drop_take,yP,kZ (by omega)]
   rw[h3,hcs,h2]
   simp only[tL,qT]
   rw[List.drop_left' hA,GW hE]
theorem dB.fz{h:bJ}{st:aB}{b:Nat}{es:List AV}(S:cS h st)(hb:st b=some (.cells (es.flatMap AV.cells)))(hj:∀e∈es,e.cD=false)(hE:iT es):∀ {us:List AV} {vs:List Value},dB h st us vs→dB h (st.erase b) (kU b es us) vs
 | [],vs,x=>by simp only[dB] at x;simp [kU,dB,x]
 | a::us,vs,x=>by
  simp only[dB] at x
  obtain⟨v,r,rfl,x1,x2⟩:=x
  simp only[kU,dB]
  exact⟨v,r,rfl,x1.fz S hb hj hE,dB.fz S hb hj hE x2⟩
theorem bX.unerase{h h':bJ}{st st':aB}{b:Nat}(x:bX h (st.erase b) h' st'):bX h st h' st':=
 ⟨x.size,fun c hc e=>x.aV c hc (aB.a0C st e),x.shape⟩
theorem aD.a3F{P:Program}{g:FuncId}{args:List AV}{st:aB}{Q:AV→aB→Prop}(b:Nat)(es:List AV)(hb:st b=some (.cells (es.flatMap AV.cells)))(hj:∀e∈es,e.cD=false)(hE:iT es)(x:aD P g (kU b es args) (st.erase b) Q):aD P g args st Q:=
 ⟨x.1,fun w vs S V=>(x.2 w vs ((kI st b).JI S) (V.fz S hb hj hE)).mono fun _ _ ⟨v,r,st',e,a,b',c,d,q⟩=>⟨v,r,st',e,a,b',c.unerase,d,q⟩⟩
def Lit(st:aB)(w:Nat)(l:List AV)(q:AV)(s:aB):Prop:=(q=.fslice l∧s=st)∨∃b,st b=none∧q=.mslice b 0 l.length w∧s=st.aC b (.cells (l.flatMap AV.cells))
theorem aTX{P:Program}{t:TypeId}{ag:Bool}{w bytes:Nat}{zs:List AV}{st:aB}{es xs:List AV}{x:AV}{K:AV→aB→Prop}(hI:eI P t=some (ag,w))(hB:eB P t=some bytes)(hZ:eZ P t=some zs)(hz:zs.length=w)(hx:x=.slice xs∨x=.fslice xs)(hes:∀e∈es,e.width=w)(eR:w7 w xs)(hl:(es.length+xs.length)*bytes≤140737488355328)(hl2:es.length+xs.length≤9223372036854775807)
 (hK:∀q s,Lit st w (es++xs) q s→K q s):jC P t st (.fslice es) x K:=by
 unfold jC
 have he:yV x=some xs:=by rcases hx with rfl | rfl<;>rfl
 simp only[hI,hB,hZ,he]
 refine⟨hz,eR,hl,hl2,hes,fun h=>?_,fun _ b hb=>?_⟩
 · subst h
   exact hK _ _ (.inl ⟨by rw[gM],rfl⟩)
 · exact hK _ _ (.inr ⟨b,hb,by rw[dN],rfl⟩)
theorem Lit.call{P:Program}{g:FuncId}{st s:aB}{w:Nat}{l:List AV}{q:AV}{post:List AV}{Q:AV→aB→Prop}(h:Lit st w l q s)(hj:∀e∈l,e.cD=false)(hw:∀e∈l,e.width=w)(hp:∀b,kU b l post=post)(x:aD P g (.slice l::post) st Q):aD P g (q::post) s Q:=by
 rcases h with ⟨rfl,rfl⟩ | ⟨b,hb,rfl,rfl⟩
 · refine aD.args x fun hp vs S V=>?_
   simp only[dB] at V ⊢
   obtain⟨v,r,rfl,V1,V2⟩:=V
   exact⟨v,r,rfl,V1.H6,V2⟩
 · refine aD.a3F b l (aB.aJ _ _ _) hj ⟨w,hw⟩ ?_
   rw[aB.BU st b _ hb]
   have:kU b l (.mslice b 0 l.length w::post)=.slice l::post:=by
    show(AV.mslice b 0 l.length w).fz b l::kU b l post=_
    rw[hp]
    simp [AV.fz]
   rw[this]
   exact x
end Go.AW
namespace Go.AW
open Go.Proofs.Tryz
def nv(i:Nat):AV:=.int .i64 (i:Int)
def eN:RG→AV
 | ⟨.mk k n s ts,aV⟩=>.agg [.int .i64 k,.int .i64 n,.str s,.slice (ts.map Tm.av),.int .i64 (aV:Int)]
theorem CO(k n:Int)(s:ByteArray)(ts:List Tm)(aV:Nat):eN ⟨.mk k n s ts,aV⟩=.agg [.int .i64 k,.int .i64 n,.str s,.slice (ts.map Tm.av),.int .i64 (aV:Int)]:=rfl
theorem a9L(g:RG):eN g=.agg (g.t.av.cells++ [.int .i64 (g.aV:Int)]):=by obtain⟨⟨k,n,s,ts⟩,aV⟩:=g;rw[aX];try rfl
theorem FR(g:RG):(eN g).width=5:=by obtain⟨⟨k,n,s,ts⟩,aV⟩:=g;rfl
theorem a9M(g:RG):(eN g).cells.all AV.storable=true:=by obtain⟨⟨k,n,s,ts⟩,aV⟩:=g;rfl
theorem a9K(g:RG):(eN g).cD=false:=by obtain⟨⟨k,n,s,ts⟩,aV⟩:=g;rfl
def fT:RC→AV
 | ⟨.mk k n s ts,rest,left,σ,N⟩=>.agg [.int .i64 k,.int .i64 n,.str s,.slice (ts.map Tm.av),.slice (rest.map eN),.slice (left.map nv),.slice (cZ N σ)]
theorem NR(g:RC):(fT g).width=7:=by obtain⟨⟨k,n,s,ts⟩,_,_,_,_⟩:=g;rfl
theorem a86(g:RC):(fT g).cells.all AV.storable=true:=by obtain⟨⟨k,n,s,ts⟩,_,_,_,_⟩:=g;rfl
theorem a85(g:RC):(fT g).cD=false:=by obtain⟨⟨k,n,s,ts⟩,_,_,_,_⟩:=g;rfl
def pN(s:RS):AV:=.agg [.slice (s.goals.map eN),.slice (cZ s.N s.σ),.slice (s.chs.map fT)]
abbrev VY:=zi aW (zi cF (zi cA bR))
theorem aAA:∀(t:Tm) (d:Nat) (st:aB),d≤1000→t.small=true→aD prog 287 [t.av,.int .i64 (d:Int)] st (fun r st'=>r=.bool (t.flat d)∧st'=st)
 | .mk k n s ts,d,st,hd,hsm=>by
  obtain⟨hlen,qB⟩:=Tm.qN hsm
  have IH:=fun(x:Tm) (hx:x∈ts) d st h=>aAA x d st h (qB x hx)
  simp only[aX]
  refine wF [1000000] 2 func287 ntmps287 rfl rfl ?_
  intro _
  simp only[aA,seval,VY]
  refine aP (fun h=>?_) (fun h=>?_)
  · simp only[bK] at h
    obtain rfl:d=0:=by omega
    simp only[aA,↓aS,seval]
    rw[Tm.H3]
  simp only[dF] at h
  obtain⟨e,rfl⟩:∃e,d=e+1:=⟨d - 1,by omega⟩
  rw[Tm.xG]
  have hw1:IntKind.i64.wrap ((e:Int)+1 - 1)=(e:Int):=by rw[wrap64 (by omega) (by omega)];omega
  simp only[aA,seval]
  refine dX (σ:=Unit) [1000000] [1,2] ts (fun i _=>((ts.drop i).all fun t=>t.flat e)=(ts.all fun t=>t.flat e)) (fun i _=>[(5,.int .i64 i)]) (fun _ _=>st) (by decide +kernel) ⟨(),rfl,aO.mk (by simp only[aA,↓aS,seval])⟩ (fun i x _ hx hlt bL hdr hinv=>?_) (fun _ hge hinv=>?_)
  case refine_2=>
   simp only[hge,aF,aA,seval,VY]
   rw[←hinv,kB]
   try rfl
  have hw:=bF (n:=(i:Int)+1)
  rw[hdr,kY] at hinv
  simp only[bL,aF,bH (av:=Tm.av) bQ hx (aN x),a7,aN,hw1,aA,seval,VY]
  refine(IH x (cH hx) e _ (by omega)).to ?_
  simp only[aA,seval]
  refine aP (fun h2=>?_) (fun h2=>?_)
  · simp only[aA,seval]
    simp only[lJ] at h2
    rw[←hinv,h2]
    try rfl
  · simp only[tH] at h2
    rw[h2,dU] at hinv
    simp only[aA,seval]
    exact⟨(),hinv,aO.mk (by simp only[hw,aA,seval])⟩
termination_by t=>SizeOf.sizeOf t
decreasing_by have:=List.sizeOf_lt_of_mem hx;simp only[Tm.mk.sizeOf_spec];omega
abbrev JS:=zi aW (zi cF (zi cA bR))
theorem aAC{N:Nat}{σ:Sub}(hg:cQ σ)(ho:cX (bG N) σ)(t:Tm)(ht:bG N t)(st:aB) :
 aD prog 223 [t.av,.slice (cZ N σ)] st (fun r st'=>st'=st∧∃x:Tm,r=.tup [x.av,.bool (eQ (t.aM (rs σ)))]∧(eQ (t.aM (rs σ))=true→x=t.aM (rs σ))):=by
 obtain⟨rk,B,G⟩:=hg.rs
 have S7:=fun st=>ZA G ho 120 t st (cU _) ht
 have hV:=G.UD ho.mN ht.1
 refine aD.nR (aD.soft ?_)
 refine wF [1000000] 2 func223 ntmps223 rfl rfl ?_
 intro _
 simp only[a7,aN,cP,aA,seval,JS]
 intro b4 h4
 refine(S7 _).mono ?_
 rintro _ _ ⟨rfl,x,left,rfl,h1,h2⟩
 simp only[aN,cI,cP,aA,↓aS,seval,JS]
 refine wP [(1,1),(2,1),(3,1),(4,2),(0,1),(5,0),(6,1),(7,0),(8,1)] [1,2,3,4,0,6,8] mixed ?_
 simp only[aA,seval]
 refine cT (fun h=>?_) (fun h=>?_)
 · have h3:0≤left:=by simpa using h
   have h4:(t.aM (rs σ)).nodes≤120:=yL fun h5=>by rw[aE h5] at h2;omega
   rw[aG h4] at h2
   obtain⟨rfl,_⟩:=h2
   have h5:eQ (t.aM (rs σ))=(t.aM (rs σ)).flat 30:=by unfold eQ;simp [h4]
   simp only[h,a7,aN,aA,seval,JS]
   refine(aAA _ 30 _ (by omega) hV.small).to ?_
   simp only[aK,cI,cP,cE,aA,seval,JS]
   refine⟨st,(aL.refl _).aC ‹_›,rfl,_,by simp only[jJ,rU,Tm.soft,bA,aY];rw[h5],fun _=>rfl⟩
 · have hx0:=trivial
   have h3:left<0:=by simpa using h
   have h4:¬(t.aM (rs σ)).nodes≤120:=fun h5=>by rw[aG h5] at h2;omega
   have h5:eQ (t.aM (rs σ))=false:=by unfold eQ;simp [h4]
   simp only[h,aK,a7,aN,cI,cP,cE,fN (cE x),fG (a7 x),aA,seval,JS]
   refine⟨st,(aL.refl _).aC ‹_›,rfl,x,by simp only[jJ,rU,Tm.soft,bA,aY];rw[h5],fun h6=>?_⟩
   rw[h5] at h6;cases h6
theorem a3C(c:Cl):H5 c=(bT (c.1::c.2) []).foldl (fun n v=>if n≤v then v+1 else n) 0:=rfl
abbrev N8:=zi aW (zi fJ (zi cA (zi bR mT)))
theorem aX0(c:Cl)(hc:gD c)(h6:c.2.length≤6)(st:aB):aD prog 297 [bY c] st (fun r st'=>r=.int .i64 (pD c:Int)∧st'=st):=by
 have hvr:=fun v=>hc.vars (v:=v)
 have hok:=hc.FD
 have hfr:(pD c:Int)=H5 c:=by
  have:=(aLS (bT (c.1::c.2) []) 0).1
  unfold pD H5
  omega
 rw[hfr,a3C]
 have hnd:bB Tm.nodes (c.1::c.2)≤1099511627776:=by
  have:∀l:List Tm,(∀t∈l,bG 26 t)→bB Tm.nodes l≤l.length*120:=by
   intro l
   induction l with
   | nil=>intro _;simp [bB]
   | cons x l ih=>intro h;simp only[bB,aU];have:=ih fun y hy=>h y (by simp [hy]);have:=(h x (by simp)).2;omega
  have:=this _ hok
  simp only[aU] at this
  omega
 have hvl:=AT (c.1::c.2) []
 obtain⟨⟨k,n,s,ts⟩,bd⟩:=c
 simp only at h6 hnd hvl hvr hok
 rw[iW]
 refine aD.done ?_
 refine wF [1000000] 1 func297 ntmps297 rfl rfl ?_
 intro _
 simp only[aA,seval,N8]
 refine aTX bQ jE jF rfl (.inl rfl) (by intro e he;simp only[cY,dK,dQ] at he;subst he;rfl) (fun e he=>by simp only[cB] at he;obtain⟨t,_,rfl⟩:=he;exact⟨aN _,cI _⟩) (by simp only[aU,aZ,aF];omega) (by simp only[aU,aZ,aF];omega) (fun q s2 hq=>?_)
 rw[←aX] at hq
 rw[show[(Tm.mk k n s ts).av]++bd.map Tm.av=((Tm.mk k n s ts)::bd).map Tm.av from rfl] at hq
 simp only[aA,seval]
 refine Lit.call hq (oV _) (gO _) (fun _=>rfl) ?_
 refine(aAE _ _ (fun t ht=>Tm.tZ t (hok t ht).1.2.1) hnd).to ?_
 generalize bT ((Tm.mk k n s ts)::bd) []=vs at *
 simp only[aZ] at hvl
 simp only[aA,seval]
 refine dX (σ:=Int) [1000000] [2,3] vs (fun i n=>(vs.drop i).foldl (fun n v=>if n≤v then v+1 else n) n=vs.foldl (fun n v=>if n≤v then v+1 else n) 0) (fun i n=>[(4,.int .i64 n),(5,.int .i64 i)]) (fun _ _=>st) (by decide +kernel) ⟨0,rfl,aO.mk (by simp only[aA,↓aS,seval])⟩ (fun i x n hx hlt bL hdr hinv=>?_) (fun n hge hinv=>?_)
 case refine_2=>
  rw[kB] at hinv
  simp only[aF,hge,aA,seval,N8]
  refine⟨?_,aL.refl _⟩
  rw[←hinv]
  try rfl
 rw[hdr,vD] at hinv
 have hw:=bF (n:=(i:Int)+1)
 obtain⟨t,ht,hv⟩:=(hvr x).1 (cH hx)
 have bE4:=(hok t ht).1.2.2 x hv
 have hw2:=bF (n:=x+1)
 have hat:c8 prog 26 (.slice (vs.map iv)) (.int .i64 (i:Int))=some (.pptr (.int .i64 x)):=bH (av:=iv) fO hx rfl
 simp only[aF,bL,hat,aA,seval,N8]
 refine aP (fun h=>?_) (fun h=>?_)
 · rw[aG (by simpa using h)] at hinv
   simp only[hat,hw2,hw,aA,seval,N8]
   exact⟨x+1,hinv,aO.mk (by simp only[aA,seval])⟩
 · rw[aE (by simpa using h)] at hinv
   simp only[hw,aA,seval]
   exact⟨n,hinv,aO.mk (by simp only[aA,seval])⟩
theorem aPG{M:Int}(m:Nat)(hm:M+m≤1073741824):∀t:Tm,cJ M t→t.sh (m:Int)=dG m t:=by
 intro t
 induction t using Tm.ind with
 | h k n s ts ih=>
  intro h
  rw[Tm.U6]
  by_cases hk:k=1
  · subst hk
    obtain⟨h0,h1,rfl,rfl⟩:=h.var
    unfold dG
    rw[aG rfl,AD _ (t:=.mk 1 n ⟨#[]⟩ []) rfl,wrap64 (by omega) (by omega)]
    try rfl
  · obtain⟨_,h2⟩:=h.own hk
    unfold dG at ih ⊢
    rw[aE hk,x6 _ hk]
    congr 1
    exact qU fun x hx=>ih x hx (h2 x hx)
abbrev N9:=zi aW (zi cA (zi bR (zi J2 aRE)))
theorem aAB(bd:List Tm)(N aV:Nat)(rest:List RG)(hb:∀t∈bd,bG 26 t)(h6:bd.length≤6)(hN:N≤1048576)(hr:rest.length≤1048576)(st:aB) :
 aD prog 222 [.slice (bd.map Tm.av),.int .i64 (N:Int),.int .i64 (aV:Int),.slice (rest.map eN)] st (fun r st'=>r=.slice ((bd.map (fun t=>(⟨dG N t,aV⟩:RG))++rest).map eN)∧st'=st):=by
 refine aD.m8 (aD.fin ?_)
 refine wF [1000000] 4 func222 ntmps222 rfl rfl ?_
 intro _
 simp only[aA,seval,N9]
 refine dX (σ:=Nat) [1000000] [0,1,2,3,8] bd (fun i b=>((bd.take i).map (fun t=>(⟨dG N t,aV⟩:RG))).map eN≠[]→st b=none) (fun i b=>[(9,bS 5 b (((bd.take i).map (fun t=>(⟨dG N t,aV⟩:RG))).map eN)),(10,.int .i64 i)]) (fun i b=>bE st b (((bd.take i).map (fun t=>(⟨dG N t,aV⟩:RG))).map eN)) (by decide +kernel) ⟨0,fun h=>absurd rfl h,aO.mk (by simp only[jA,aY,iV,aA,↓aS,seval])⟩ (fun i x b hx hlt bL hdr hinv=>?_) (fun b hge hinv=>?_)
 case refine_1=>
  have hw:=bF (n:=(i:Int)+1)
  have cM:(((bd.take i).map (fun t=>(⟨dG N t,aV⟩:RG))).map eN).length=i:=by simp only[aF,c7];omega
  have htk:(((bd.take i).map (fun t=>(⟨dG N t,aV⟩:RG))).map eN)++ [eN ⟨dG N x,aV⟩]=(((bd.take (i+1)).map (fun t=>(⟨dG N t,aV⟩:RG))).map eN):=by rw[dY,hx];simp
  have hxo:=hb x (cH hx)
  have hsh:=aPG N (by omega) x hxo.1
  have hcs:=QX (N:Int) x
  rw[hsh] at hcs
  have hgo:eN ⟨dG N x,aV⟩=.agg ((dG N x).av.cells++ [.int .i64 (aV:Int)]):=a9L _
  simp only[bL,aF,bH (av:=Tm.av) bQ hx (aN x),a7,aN,aA,seval,N9]
  refine(hcs _ hxo.1.small).to ?_
  generalize dG N x=y at *
  obtain⟨yk,yn,ys,yt⟩:=y
  simp only[aX,CO] at htk hgo ⊢
  simp only[aA,seval,N9]
  refine eO HX RP RR rfl rfl (fQ rfl rfl) (by intro e he;simp only[cB] at he;obtain⟨t,_,rfl⟩:=he;exact FR t) hinv (by simp only[cM,aU,aZ];omega) (by simp only[cM,aU,aZ];omega) (fun b' hb'=>?_)
  rw[htk] at hb' ⊢
  simp only[hw,aA,seval]
  exact⟨b',hb',aO.mk (by simp only[aA,seval])⟩
 rw[dS] at hinv ⊢
 simp only[aF,hge,aA,seval,N9]
 refine eO (xs:=rest.map eN) HX RP RR rfl rfl (by intro e he;simp only[cB] at he;obtain⟨t,_,rfl⟩:=he;exact⟨FR t,a9M t⟩) (by intro e he;simp only[cB] at he;obtain⟨t,_,rfl⟩:=he;exact FR t) hinv (by simp only[aF];omega) (by simp only[aF];omega) (fun b' hb'=>?_)
 rw[←o7] at hb' ⊢
 simp only[aA,seval]
 exact⟨b',_,st,rfl,hb',by intro e he;simp only[cB] at he;obtain⟨t,_,rfl⟩:=he;exact a9K t,⟨5,by intro e he;simp only[cB] at he;obtain⟨t,_,rfl⟩:=he;exact FR t⟩,by rw[oI],aL.refl _⟩
def rD(p:List Cl)(t:Tm)(i:Nat):Bool:=match p[i]? with
 | some c=>IE c t
 | none=>false
theorem MI(p:List Cl)(t:Tm):eJ p t=(List.range p.length).filter (rD p t):=rfl
theorem aLR(p:List Cl)(t:Tm)(i:Nat):(List.range (i+1)).filter (rD p t)=(List.range i).filter (rD p t)++(if rD p t i=true then[i] else[]):=by
 rw[List.range_succ,List.filter_append]
 congr 1
 by_cases h:rD p t i=true<;>simp [h]
theorem MJ(p:List Cl)(t:Tm)(i:Nat):((List.range i).filter (rD p t)).length≤i:=by
 have:=List.length_filter_le (rD p t) (List.range i)
 rw[List.length_range] at this
 exact this
theorem T9(l:List Nat):∀e∈l.map nv,e.width=1:=by intro e h;simp only[cB] at h;obtain⟨t,_,rfl⟩:=h;rfl
abbrev F4:=zi aW (zi cW (zi fJ (zi jM (zi cA (zi bR mT)))))
theorem aXN(p:List Cl)(t:Tm)(hp:p.length≤1048576)(st:aB):aD prog 171 [.slice (p.map bY),t.av] st (fun r st'=>r=.slice ((eJ p t).map nv)∧st'=st):=by
 rw[MI]
 refine aD.done ?_
 obtain⟨tk,tn,ts',tts⟩:=t
 simp only[aX]
 refine wF [1000000] 2 func171 ntmps171 rfl rfl ?_
 intro _
 simp only[aA,seval,F4]
 refine oW (σ:=Unit) [1000000] [0,3,4] p 1 5 (fun i _=>((List.range i).filter (rD p (.mk tk tn ts' tts))).map nv) (fun _ _=>True) (fun i _=>[(6,.int .i64 i)]) (fun _ _=>st) (fun i _ _ e he=>by simp only[cB] at he;obtain⟨t,_,rfl⟩:=he;exact⟨rfl,rfl⟩) (by decide +kernel) ⟨(),0,trivial,fun h=>absurd rfl h,aO.mk (by simp only[iV,List.range_zero,List.filter_nil,aY,aA,↓aS,seval])⟩ (fun i x s b hx hlt bL hdr hinv hb=>?_) (fun s b hge hinv=>?_)
 case refine_2=>
  simp only[hge,eW,iO,nS,zJ,kJ,aF,aA,seval,F4]
  exact⟨rfl,aL.refl _⟩
 have hw:=bF (n:=(i:Int)+1)
 have hst:=aLR p (.mk tk tn ts' tts) i
 have hln:=MJ p (.mk tk tn ts' tts) i
 have hat:=bH (av:=bY) (P:=prog) rA hx (k8 x)
 obtain⟨⟨k,n,s',ts⟩,bd⟩:=x
 rw[iW] at hat
 have hP:rD p (.mk tk tn ts' tts) i=(decide (s'=ts')&&decide ((ts.length:Int)=(tts.length:Int))):=by unfold rD;rw[hx];try rfl
 rw[hP] at hst
 simp only[bL,aF,aA,seval,F4]
 refine wP [(0,1),(1,1),(2,1),(3,1),(4,1),(6,1),(5,2),(7,2),(8,1),(9,1),(10,1),(11,1),(12,1),(13,1),(14,1),(17,1),(15,2),(16,1),(18,2),(19,1),(20,1),(21,1)] [0,1,2,3,4,6,5,7,8,9,10,11,12,13,14,17,15,16,18,19,20,21] mixed ?_
 simp only[hat,aA,seval,F4]
 refine cT (fun h=>?_) (fun h=>?_)
 case refine_2=>
  have h':(decide (s'=ts')&&decide ((ts.length:Int)=(tts.length:Int)))=false:=by simp at h;simp [h]
  rw[h',aE (by simp),gM] at hst
  rw[←hst] at hb ⊢
  simp only[h,hw,aA,seval]
  exact⟨(),b,hb,aO.mk (by simp only[aA,seval])⟩
 have h1:decide (s'=ts')=true:=by simpa using h
 rw[h1,dU] at hst
 simp only[h,aF,hat,aA,seval,F4]
 refine aP (fun h2=>?_) (fun h2=>?_)
 · rw[aG h2] at hst
   simp only[aA,seval,F4]
   refine eO fO t7 sQ rfl rfl (fQ rfl rfl) (T9 _) hb (by simp only[aF,aU,aZ];omega) (by simp only[aF,aU,aZ];omega) (fun b' hb'=>?_)
   rw[show ∀l:List Nat,l.map nv++ [AV.int .i64 (i:Int)]=(l++ [i]).map nv from fun l=>by simp [nv],←hst] at hb' ⊢
   simp only[hw,aA,seval]
   exact⟨(),b',hb',aO.mk (by simp only[aA,seval])⟩
 · rw[aE (by simp [h2]),gM] at hst
   rw[←hst] at hb ⊢
   simp only[hw,aA,seval]
   exact⟨(),b,hb,aO.mk (by simp only[aA,seval])⟩
theorem TO{n:Int}:∀ {l:List Int},l.Nodup→∀ {i:Nat},l[i]?=some n→∀j:Int,eC n l j=j+i
 | [],_,i,h,j=>by simp at h
 | x::l,hd,0,h,j=>by
  simp only[A8,Option.some.injEq] at h
  subst h
  simp [eC]
 | x::l,hd,i+1,h,j=>by
  rw[GT] at hd
  rw[A7] at h
  have hm:=cH h
  simp only[eC]
  rw[aE (fun e:n=x=>hd.1 (e▸hm)),TO hd.2 h (j+1)]
  omega
abbrev n8:=zi aW (zi cW (zi fJ (zi cA bR)))
theorem ZV(vars:List Int)(hnd:vars.Nodup)(hvl:vars.length≤1048576):∀(t:Tm) (st:aB),t.small=true→t.cv=true→(∀v∈t.vl,v∈vars)→aD prog 288 [t.av,.slice (vars.map iv)] st (fun r st'=>r=(t.aM fun v=>vr (eC v vars 0)).av∧st'=st)
 | .mk k n s ts,st,hsm,hcv,hin=>by
  obtain⟨hlen,qB⟩:=Tm.qN hsm
  obtain⟨hc1,hcs⟩:=Tm.nQ.1 hcv
  have IH:=fun(x:Tm) (hx:x∈ts) st=>ZV vars hnd hvl x st (qB x hx) (hcs x hx) (fun v hv=>by
   by_cases hk:k=1
   · rw[(hc1 hk).2] at hx;cases hx
   · exact hin v ((Tm.lC hk).2 ⟨x,hx,hv⟩))
  generalize hg:(Tm.aM fun v=>vr (eC v vars 0))=g at IH
  refine aD.m8 (aD.fin ?_)
  simp only[aX]
  refine wF [1000000,5] 2 func288 ntmps288 rfl rfl ?_
  intro _
  simp only[aK,aA,↓aS,seval,n8]
  intro b4 h4 c hc
  have hne:c≠b4:=by rintro rfl;rw[aB.aJ] at hc;cases hc
  have hnc:st c=none:=by rw[aB.aH st _ hne] at hc;exact hc
  have S9:∀i:Nat,vars[i]?=some n→eC n vars 0=(i:Int):=fun i hi=>by
   have:=TO hnd hi 0
   omega
  generalize hW:st.aC b4 (.cells [AV.int .i64 0,AV.int .i64 0,AV.str ⟨#[]⟩,AV.fslice []])=W
  have hWc:W c=none:=by rw[←hW];exact hc
  have hW4:W b4=some (.cells [AV.int .i64 0,AV.int .i64 0,AV.str ⟨#[]⟩,AV.fslice []]):=by rw[←hW];exact aB.aJ _ _ _
  have hS:W b4≠none:=by rw[hW4];simp
  have MT:b4≠c:=c9 hne
  refine iJ (σ:=Nat×Int) [1000000,5] [1,2,4,5] (fun p=>p.1≤vars.length∧(k≠1→p.2=n)∧(k=1→(n∈vars.take p.1→p.2=eC n vars 0))) (fun p=>[(6,.int .i64 p.1)]) (fun p=>W.aC c (.cells [.int .i64 k,.int .i64 p.2,.str s,.fslice []])) (fun p=>vars.length - p.1) (by decide +kernel) ⟨(0,n),⟨iU _,fun _=>rfl,fun _ h=>by simp at h⟩,aO.mk (by simp only[aA,↓aS,seval])⟩ ?_
  rintro⟨i,n'⟩ ⟨h1,h2,h3⟩
  simp only at h1 h2 h3
  have rest:(k=1→n'=eC n vars 0)→True:=fun _=>trivial
  simp only[aF,aA,seval,n8]
  have fin:(k=1→n'=eC n vars 0)→g (.mk k n s ts)=.mk k n' s (ts.map g):=fun h4=>by
   rw[←hg]
   by_cases hk:k=1
   · obtain⟨rfl,rfl⟩:=hc1 hk
     rw[Tm.mL _ hk,h4 hk,hk];try rfl
   · rw[Tm.kO _ hk,h2 hk]
  refine cT (fun h=>?_) (fun h=>?_)
  case refine_2=>
   have h4:(k=1→n'=eC n vars 0):=fun hk=>h3 hk (by
    have:i=vars.length:=by simp at h;omega
    rw[this,dS]
    exact hin n (by rw[Tm.nI hk];simp))
   simp only[h,aA,seval]
   refine dX (σ:=Nat) [1000000,5] [1,2,4,5] ts (fun i b=>(((ts.take i).map g).map Tm.av≠[]→(aB.aC W c (.cells ([AV.int .i64 k,AV.int .i64 (n'),AV.str s]++ [bS 4 b (((ts.take i).map g).map Tm.av)]))) b=none)) (fun i b=>[(7,.int .i64 i)]) (fun i b=>lE W c b [AV.int .i64 k,AV.int .i64 (n'),AV.str s] (((ts.take i).map g).map Tm.av)) (by decide +kernel)
    ⟨0,fun h=>absurd rfl h,aO.mk (by simp only[aA,↓aS,seval])⟩ (fun i x b hx hlt bL hdr hinv=>?_) (fun b hge hinv=>?_)
   case refine_1=>
    have hw:=bF (n:=(i:Int)+1)
    have cM:(((ts.take i).map g).map Tm.av).length=i:=by simp only[aF,c7];omega
    have htk:(ts.take (i+1)).map g=(ts.take i).map g++ [g x]:=by rw[dY,hx];simp
    have hbo:=mK hinv
    simp only[aF,bL,aF,aA,seval,n8]
    refine wP [(0,1),(2,1),(4,1),(7,1),(1,2),(3,2),(5,1),(6,2),(8,2),(9,1),(10,0),(11,1),(12,0)] [0,2,4,7,1,3,5,6,8,9,11] mixed ?_
    simp only[bH (av:=Tm.av) bQ hx (aN x),a7,aN,hbo,sD,aA,seval,n8]
    refine gP (IH x (cH hx) _) ?_
    simp only[a7,aN,cP,aA,seval,n8]
    refine eO bQ jE jF rfl rfl (fQ (aN _) (cI _)) (gO _) hinv (by simp only[cM,aU,aZ];omega) (by simp only[cM,aU,aZ];omega) (fun b' hb'=>?_)
    rw[show(((ts.take i).map g).map Tm.av)++ [(g x).av]=((ts.take (i+1)).map g).map Tm.av by rw[htk];simp] at hb' ⊢
    obtain⟨g1,g2,g3⟩:=xS hb'
    simp only[gV,fB] at g1 g3
    simp only[g3,qZ,kF,aK,g1,hw,aK,aA,seval,n8]
    exact⟨b',g2,aO.mk (by simp only[aA,seval])⟩
   have hbo:=mK hinv
   rw[dS] at hinv hbo ⊢
   simp only[aF,hge,aF,aA,seval,n8]
   simp only[hbo,aK,aA,seval,n8]
   have g1:=oQ hinv hS MT
   rw[hW4] at g1
   simp only[g1,kF,aA,seval]
   obtain⟨g2,g3⟩:=vY (o:=.cells [AV.int .i64 k,AV.int .i64 (n'),AV.str s,bS 4 b ((ts.map g).map Tm.av)]) hinv hS MT
   refine⟨b,_,_,g2,g3,oV _,⟨4,gO _⟩,?_,fun x=>?_⟩
   · simp only[iX,bA,aY,eW,m9,oI,←aX]
     rw[fin h4]
   · subst hW
     by_cases e3:x=b4<;>by_cases e4:x=c<;>simp_all [aB.aC]
  have hlt:i<vars.length:=by simpa using h
  simp only[h,aA,seval,n8]
  refine aP (fun h5=>?_) (fun h5=>?_)
  case refine_2=>
   have h5':k≠1:=by simpa using h5
   have h4:(k=1→n'=eC n vars 0):=fun hk=>absurd hk h5'
   simp only[aA,seval]
   refine dX (σ:=Nat) [1000000,5] [1,2,4,5] ts (fun i b=>(((ts.take i).map g).map Tm.av≠[]→(aB.aC W c (.cells ([AV.int .i64 k,AV.int .i64 (n'),AV.str s]++ [bS 4 b (((ts.take i).map g).map Tm.av)]))) b=none)) (fun i b=>[(7,.int .i64 i)]) (fun i b=>lE W c b [AV.int .i64 k,AV.int .i64 (n'),AV.str s] (((ts.take i).map g).map Tm.av)) (by decide +kernel)
    ⟨0,fun h=>absurd rfl h,aO.mk (by simp only[aA,↓aS,seval])⟩ (fun i x b hx hlt bL hdr hinv=>?_) (fun b hge hinv=>?_)
   case refine_1=>
    have hw:=bF (n:=(i:Int)+1)
    have cM:(((ts.take i).map g).map Tm.av).length=i:=by simp only[aF,c7];omega
    have htk:(ts.take (i+1)).map g=(ts.take i).map g++ [g x]:=by rw[dY,hx];simp
    have hbo:=mK hinv
    simp only[aF,bL,aF,aA,seval,n8]
    refine wP [(0,1),(2,1),(4,1),(7,1),(1,2),(3,2),(5,1),(6,2),(8,2),(9,1),(10,0),(11,1),(12,0)] [0,2,4,7,1,3,5,6,8,9,11] mixed ?_
    simp only[bH (av:=Tm.av) bQ hx (aN x),a7,aN,hbo,sD,aA,seval,n8]
    refine gP (IH x (cH hx) _) ?_
    simp only[a7,aN,cP,aA,seval,n8]
    refine eO bQ jE jF rfl rfl (fQ (aN _) (cI _)) (gO _) hinv (by simp only[cM,aU,aZ];omega) (by simp only[cM,aU,aZ];omega) (fun b' hb'=>?_)
    rw[show(((ts.take i).map g).map Tm.av)++ [(g x).av]=((ts.take (i+1)).map g).map Tm.av by rw[htk];simp] at hb' ⊢
    obtain⟨g1,g2,g3⟩:=xS hb'
    simp only[gV,fB] at g1 g3
    simp only[g3,qZ,kF,aK,g1,hw,aK,aA,seval,n8]
    exact⟨b',g2,aO.mk (by simp only[aA,seval])⟩
   have hbo:=mK hinv
   rw[dS] at hinv hbo ⊢
   simp only[aF,hge,aF,aA,seval,n8]
   simp only[hbo,aK,aA,seval,n8]
   have g1:=oQ hinv hS MT
   rw[hW4] at g1
   simp only[g1,kF,aA,seval]
   obtain⟨g2,g3⟩:=vY (o:=.cells [AV.int .i64 k,AV.int .i64 (n'),AV.str s,bS 4 b ((ts.map g).map Tm.av)]) hinv hS MT
   refine⟨b,_,_,g2,g3,oV _,⟨4,gO _⟩,?_,fun x=>?_⟩
   · simp only[iX,bA,aY,eW,m9,oI,←aX]
     rw[fin h4]
   · subst hW
     by_cases e3:x=b4<;>by_cases e4:x=c<;>simp_all [aB.aC]
  have hk:k=1:=by simpa using h5
  obtain⟨x,hx⟩:∃x,vars[i]?=some x:=⟨_,d4 hlt⟩
  have hat:c8 prog 26 (.slice (vars.map iv)) (.int .i64 (i:Int))=some (.pptr (.int .i64 x)):=bH (av:=iv) fO hx rfl
  have hw:=bF (n:=(i:Int)+1)
  have htk:vars.take (i+1)=vars.take i++ [x]:=by rw[dY,hx];try rfl
  simp only[aA,seval]
  refine wP [(0,1),(1,1),(2,1),(4,1),(3,2),(5,2),(6,1)] [0,1,2,4,3,5,6] mixed ?_
  simp only[hat,aA,seval,n8]
  refine aP (fun h6=>?_) (fun h6=>?_)
  · have h6':x=n:=by simpa using h6
    subst h6'
    simp only[aK,hw,aA,seval,n8]
    refine⟨(i+1,(i:Int)),by simp only;omega,⟨hlt,fun h=>absurd hk h,fun _ _=>(S9 i hx).symm⟩,aO.mk (by simp only[aA,seval])⟩
  · have h6':x≠n:=by simpa using h6
    simp only[hw,aA,seval]
    refine⟨(i+1,n'),by simp only;omega,⟨hlt,h2,fun hk hm=>h3 hk ?_⟩,aO.mk (by simp only[aA,seval])⟩
    rw[htk,eH] at hm
    rcases hm with hm | hm
    · exact hm
    · simp only[cY,dK,dQ] at hm
      exact absurd hm.symm h6'
termination_by t=>SizeOf.sizeOf t
decreasing_by have:=List.sizeOf_lt_of_mem hx;simp only[Tm.mk.sizeOf_spec];omega
end Go.AW
