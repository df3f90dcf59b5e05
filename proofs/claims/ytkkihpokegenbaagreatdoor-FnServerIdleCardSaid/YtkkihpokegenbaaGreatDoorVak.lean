/- Unification: it keeps the bindings good, makes the terms equal, and is most general; it comes to an end. -/
import Derived.Test.YtkkihpokegenbaaGreatDoorVai
import Derived.Test.YtkkihpokegenbaaGreatDoorVaj
import Derived.Lib.Join
import Derived.Test.YtkkihpokegenbaaGreatDoorVaf
import Derived.Lib.SliceRun
import Derived.Test.YtkkihpokegenbaaGreatDoorVah
set_option linter.unusedSimpArgs false
set_option linter.unusedVariables false
set_option maxRecDepth 100000
namespace Go.AW
abbrev dN (σ:Sub):Prop:=∃R rk B,Good σ R rk B
theorem dN.rs{σ:Sub}(h:dN σ):∃rk B,Good σ (rs σ) rk B:=by
 obtain⟨R,rk,B,G⟩:=h
 exact⟨rk,B,by rw[G.rs];exact G⟩
theorem dN.none:dN Sub.none:=⟨_,_,_,Good.none⟩
structure nS (σ:Sub) (a b:List Tm) (r:Bool) (σ':Sub) (tr:List Int):Prop where
 iL:dN σ'
 aY:∀m,m∉tr→σ' m=σ m
 new:∀m∈tr,σ m=none∧σ' m≠none
 nodup:tr.Nodup
 eq:r=true→a.map (Tm.aV (rs σ'))=b.map (Tm.aV (rs σ'))
 gen:∀θ,qB θ σ→a.map (Tm.aV θ)=b.map (Tm.aV θ)→r=true∧qB θ σ'
 same:tr= []→σ'=σ
theorem qB.sub{σ σ':Sub}{θ:Int→Tm}{tr:List Int}(S:qB θ σ')(aY:∀m,m∉tr→σ' m=σ m)(new:∀m∈tr,σ m=none∧σ' m≠none):qB θ σ:=fun n u h=>by
 by_cases hn:n∈tr
 · rw[(new n hn).1] at h;cases h
 · exact S n u (by rw[aY n hn];exact h)
theorem nS.wU{σ σ':Sub}{a b:List Tm}{r:Bool}{tr:List Int}(h:nS σ a b r σ' tr):qB (rs σ') σ:=by
 obtain⟨rk,B,G⟩:=h.iL.rs
 exact G.wU.sub h.aY h.new
theorem nS.stays{σ σ':Sub}{a b:List Tm}{r:Bool}{tr:List Int}(h:nS σ a b r σ' tr)(hg:dN σ){x y:Tm}(e:x.aV (rs σ)=y.aV (rs σ)):x.aV (rs σ')=y.aV (rs σ'):=by
 obtain⟨rk,B,G⟩:=hg.rs
 rw[←G.NZ h.wU x,←G.NZ h.wU y,e]
theorem S2{σ:Sub}(hg:dN σ){a b:Tm}{n:Int}(ha:a.k=1)(han:a.n=n)(hn:σ n=none)(hb:b.k=1→σ b.n=none∧b.n≠n){r:Bool}{σ':Sub}{tr:List Int}(h:mN σ n b=(r,σ',tr)):nS σ [a] [b] r σ' tr:=by
 obtain⟨rk,B,G⟩:=hg.rs
 have hav:∀θ,a.aV θ=θ n:=fun θ=>by rw[Tm.CD θ ha,han]
 unfold mN at h
 split at h
 · rename_i fQ
   cases h
   refine⟨hg,fun _ _=>rfl,fun _ h=>absurd h (c8),nR,fun h=>(by cases h),fun θ S e=>?_,fun _=>rfl⟩
   exfalso
   simp only[bL,bE,List.cons.injEq,dU] at e
   rw[hav] at e
   by_cases hbk:b.k=1
   · rw[Tm.CD _ hbk,G.free (hb hbk).1,DT] at fQ
     simp only[cL,c8,dP] at fQ
     exact(hb hbk).2 fQ.symm
   · rw[←G.NZ S b] at e
     have h1:((b.aV (rs σ)).aV θ)=(b.aV (rs σ)).aV θ:=rfl
     have hk:(b.aV (rs σ)).k≠1:=by rw[Tm.tQ _ hbk];exact hbk
     have:=(aZE (f:=θ) (b.aV (rs σ)) fQ).2 hk
     rw[e] at this
     exact absurd this (Nat.lt_irrefl _)
 · rename_i fQ
   cases h
   obtain⟨rk',B',G'⟩:=G.bind hn fQ
   have hR:=G'.rs
   refine⟨⟨_,_,_,G'⟩,fun m hm=>?_,fun m hm=>?_,by simp,fun _=>?_,fun θ S e=>⟨rfl,fun m u hu=>?_⟩,fun h=>(by cases h)⟩
   · simp only[cL,c8,dP] at hm
     simp only[Sub.set,hm,dA]
   · simp only[cL,c8,dP] at hm
     subst hm
     exact⟨hn,by simp [Sub.set]⟩
   · simp only[bL,bE,List.cons.injEq,dU]
     rw[hav,hR]
     exact G'.bound (by simp [Sub.set])
   · simp only[bL,bE,List.cons.injEq,dU] at e
     rw[hav] at e
     simp only[Sub.set] at hu
     split at hu
     · rename_i hmn
       cases hu
       rw[hmn,e]
     · exact S m u hu
theorem yU{a b:Tm}:yT a b=true↔a.k=b.k∧a.n=b.n∧a.s=b.s∧a.ts.length=b.ts.length:=by
 simp only[yT,bD,bA,and_assoc]
theorem aLD(g:Nat)(aX5:∀σ a b r σ' tr,dN σ→dF g σ a b=some (r,σ',tr)→nS σ [a] [b] r σ' tr):∀xs ys σ r σ' tr,dN σ→xs.length=ys.length→fF g σ xs ys=some (r,σ',tr)→nS σ xs ys r σ' tr:=by
 intro xs
 have ihU:=aX5
 induction xs with
 | nil=>
  intro ys σ r σ' tr hg hl h
  cases ys with
  | cons _ _=>simp at hl
  | nil=>
   simp only[fF,Option.some.injEq,Prod.mk.injEq] at h
   obtain⟨rfl,rfl,rfl⟩:=h
   exact⟨hg,fun _ _=>rfl,fun _ h=>absurd h (c8),nR,fun _=>rfl,fun θ S _=>⟨rfl,S⟩,fun _=>rfl⟩
 | cons a xs ih=>
  intro ys σ r σ' tr hg hl h
  cases ys with
  | nil=>simp at hl
  | cons b ys=>
   rw[fF] at h
   cases h1:dF g σ a b with
   | none=>rw[h1] at h;cases h
   | some p=>
    obtain⟨r1,σ1,tr1⟩:=p
    have U1:=ihU σ a b r1 σ1 tr1 hg h1
    rw[h1] at h
    cases r1 with
    | false=>
     simp only[Option.some.injEq,Prod.mk.injEq] at h
     obtain⟨rfl,rfl,rfl⟩:=h
     refine⟨U1.iL,U1.aY,U1.new,U1.nodup,fun h=>(by cases h),fun θ S e=>?_,U1.same⟩
     simp only[bL,List.cons.injEq] at e
     exact U1.gen θ S (by simp [e.1])
    | true=>
     simp only at h
     cases h2:fF g σ1 xs ys with
     | none=>rw[h2] at h;cases h
     | some p2=>
      obtain⟨r2,σ2,tr2⟩:=p2
      rw[h2] at h
      simp only[Option.some.injEq,Prod.mk.injEq] at h
      obtain⟨rfl,rfl,rfl⟩:=h
      have U2:=ih ys σ1 r2 σ2 tr2 U1.iL (by simpa using hl) h2
      refine⟨U2.iL,fun m hm=>?_,fun m hm=>?_,?_,fun hr=>?_,fun θ S e=>?_,fun h=>?_⟩
      · simp only[fG,not_or] at hm
        rw[U2.aY m hm.2,U1.aY m hm.1]
      · rcases fG.1 hm with hm | hm
        · refine⟨(U1.new m hm).1,fun h=>(U1.new m hm).2 ?_⟩
          by_cases h3:m∈tr2
          · exact(U2.new m h3).1
          · rw[←U2.aY m h3];exact h
        · refine⟨?_,(U2.new m hm).2⟩
          by_cases h3:m∈tr1
          · exact(U1.new m h3).1
          · rw[←U1.aY m h3];exact(U2.new m hm).1
      · rw[xV]
        refine⟨U1.nodup,U2.nodup,fun x hx y hy e=>?_⟩
        subst e
        exact(U1.new x hx).2 (U2.new x hy).1
      · have e1:=U1.eq rfl
        simp only[bL,bE,List.cons.injEq,dU] at e1
        simp only[bL]
        rw[U2.stays U1.iL e1,U2.eq hr]
      · simp only[bL,List.cons.injEq] at e
        obtain⟨_,S1⟩:=U1.gen θ S (by simp [e.1])
        exact U2.gen θ S1 e.2
      · simp only[List.append_eq_nil_iff] at h
        rw[U2.same h.2,U1.same h.1]
theorem a25:∀(g:Nat),(∀σ a b r σ' tr,dN σ→dF g σ a b=some (r,σ',tr)→nS σ [a] [b] r σ' tr) ∧
 ∀xs ys σ r σ' tr,dN σ→xs.length=ys.length→fF g σ xs ys=some (r,σ',tr)→nS σ xs ys r σ' tr:=by
 intro g
 induction g with
 | zero=>
  have h0:∀σ a b r σ' tr,dN σ→dF 0 σ a b=some (r,σ',tr)→nS σ [a] [b] r σ' tr:=fun σ a b r σ' tr hg h=>by simp only[dF] at h;cases h
  exact⟨h0,aLD _ h0⟩
 | succ g ih=>
  suffices hU:∀σ a b r σ' tr,dN σ→dF (g+1) σ a b=some (r,σ',tr)→nS σ [a] [b] r σ' tr from ⟨hU,aLD _ hU⟩
  intro σ a b r σ' tr hg h
  obtain⟨ihU,ihL⟩:=ih
  have aX4:=fun xs ys σ r σ' tr hg hl h=>ihL xs ys σ r σ' tr hg hl h
  obtain⟨rk,B,G⟩:=hg.rs
  obtain⟨fa,wa⟩:=G.wk a
  obtain⟨fb,wb⟩:=G.wk b
  have hma:∀θ,qB θ σ→(wk σ a).aV θ=a.aV θ:=fun θ S=>wa.aV S
  have hmb:∀θ,qB θ σ→(wk σ b).aV θ=b.aV θ:=fun θ S=>wb.aV S
  -- it suffices to speak of the walked terms
  suffices hw:nS σ [wk σ a] [wk σ b] r σ' tr by
   refine⟨hw.iL,hw.aY,hw.new,hw.nodup,fun hr=>?_,fun θ S e=>?_,hw.same⟩
   · have:=hw.eq hr
     simp only[bL,bE,List.cons.injEq,dU] at this ⊢
     rw[←hma _ hw.wU,←hmb _ hw.wU];exact this
   · refine hw.gen θ S ?_
     simp only[bL,bE,List.cons.injEq,dU] at e ⊢
     rw[hma θ S,hmb θ S];exact e
  have ea:=wa.end
  have eb:=wb.end
  rw[dF] at h
  generalize wk σ a=a at *
  generalize wk σ b=b at *
  split at h
  · rename_i hc
    simp only[Option.some.injEq,Prod.mk.injEq] at h
    obtain⟨rfl,rfl,rfl⟩:=h
    have he:∀θ,a.aV θ=b.aV θ:=fun θ=>by rw[Tm.CD θ hc.1,Tm.CD θ hc.2.1,hc.2.2]
    exact⟨hg,fun _ _=>rfl,fun _ h=>absurd h (c8),nR,fun _=>by simp [he],fun θ S _=>⟨rfl,S⟩,fun _=>rfl⟩
  · rename_i hc
    split at h
    · rename_i ha
      exact S2 hg ha rfl (ea ha) (fun hb=>⟨eb hb,fun e=>hc ⟨ha,hb,e.symm⟩⟩) (mL h)
    · rename_i ha
      split at h
      · rename_i hb
        have U:=S2 hg hb rfl (eb hb) (fun ha'=>absurd ha' ha) (mL h)
        exact⟨U.iL,U.aY,U.new,U.nodup,fun hr=>(U.eq hr).symm,fun θ S e=>U.gen θ S e.symm,U.same⟩
      · rename_i hb
        split at h
        · rename_i hh
          rw[yU] at hh
          have U:=aX4 a.ts b.ts σ r σ' tr hg hh.2.2.2 h
          refine⟨U.iL,U.aY,U.new,U.nodup,fun hr=>?_,fun θ S e=>?_,U.same⟩
          · simp only[bL,bE,List.cons.injEq,dU]
            rw[Tm.tQ _ ha,Tm.tQ _ hb,hh.1,hh.2.1,hh.2.2.1,U.eq hr]
          · simp only[bL,bE,List.cons.injEq,dU] at e
            rw[Tm.tQ _ ha,Tm.tQ _ hb] at e
            exact U.gen θ S (by injection e)
        · rename_i hh
          simp only[Option.some.injEq,Prod.mk.injEq] at h
          obtain⟨rfl,rfl,rfl⟩:=h
          refine⟨hg,fun _ _=>rfl,fun _ h=>absurd h (c8),nR,fun h=>(by cases h),fun θ S e=>?_,fun _=>rfl⟩
          exfalso
          simp only[bL,bE,List.cons.injEq,dU] at e
          rw[Tm.tQ _ ha,Tm.tQ _ hb] at e
          injection e with e1 e2 e3 e4
          exact hh (yU.2 ⟨e1,e2,e3,by simpa using rX List.length e4⟩)
theorem GZ{g:Nat}{σ:Sub}{a b:Tm}{r:Bool}{σ':Sub}{tr:List Int}(hg:dN σ)(h:dF g σ a b=some (r,σ',tr)):nS σ [a] [b] r σ' tr:=(a25 g).1 σ a b r σ' tr hg h
theorem aLE(g g':Nat)(ih:∀σ a b x,dF g σ a b=some x→dF g' σ a b=some x):∀xs ys σ x,fF g σ xs ys=some x→fF g' σ xs ys=some x:=by
 intro xs
 induction xs with
 | nil=>intro ys σ x h;cases ys<;>simpa only[fF] using h
 | cons a xs ihx=>
  intro ys σ x h
  cases ys with
  | nil=>simpa only[fF] using h
  | cons b ys=>
   rw[fF] at h ⊢
   cases h1:dF g σ a b with
   | none=>rw[h1] at h;cases h
   | some p=>
    rw[h1] at h
    rw[ih _ _ _ _ h1]
    obtain⟨r1,σ1,tr1⟩:=p
    cases r1 with
    | false=>exact h
    | true=>
     simp only at h ⊢
     cases h2:fF g σ1 xs ys with
     | none=>rw[h2] at h;cases h
     | some p2=>rw[h2] at h;rw[ihx ys σ1 p2 h2];exact h
theorem a27:∀(g:Nat) σ a b x,dF g σ a b=some x→dF (g+1) σ a b=some x:=by
 intro g
 induction g with
 | zero=>intro σ a b x h;simp only[dF] at h;cases h
 | succ g ih=>
  intro σ a b x h
  rw[dF] at h ⊢
  split
  · rename_i hc;rw[aN hc] at h;exact h
  · rename_i hc
    rw[aK hc] at h
    split
    · rename_i hc;rw[aN hc] at h;exact h
    · rename_i hc
      rw[aK hc] at h
      split
      · rename_i hc;rw[aN hc] at h;exact h
      · rename_i hc
        rw[aK hc] at h
        split
        · rename_i hc;rw[aN hc] at h;exact aLE g (g+1) ih _ _ _ _ h
        · rename_i hc;rw[aK hc] at h;exact h
theorem LB{g g':Nat}(hle:g≤g'){σ:Sub}{a b:Tm}{x:Bool×Sub×List Int}(h:dF g σ a b=some x):dF g' σ a b=some x:=by
 induction hle with
 | refl=>exact h
 | step _ ih=>exact a27 _ _ _ _ _ ih
theorem a3A{g g':Nat}(hle:g≤g'){σ:Sub}{xs ys:List Tm}{x:Bool×Sub×List Int}(h:fF g σ xs ys=some x):fF g' σ xs ys=some x:=
 aLE g g' (fun _ _ _ _ h=>LB hle h) xs ys σ x h
def sJ(σ:Sub)(V:List Int):Nat:=V.countP fun v=>(σ v).isNone
def gH(V:List Int)(t:Tm):Prop:=∀v∈t.vl,v∈V
def l4(V:List Int)(σ:Sub):Prop:=∀n u,σ n=some u→gH V u
theorem a23{σ σ':Sub}{tr:List Int}{V:List Int}(aY:∀m,m∉tr→σ' m=σ m)(new:∀m∈tr,σ m=none∧σ' m≠none){m:Int}(hm:m∈tr)(hV:m∈V):sJ σ' V<sJ σ V:=by
 have mono:∀v,(σ' v).isNone=true→(σ v).isNone=true:=fun v h=>by
  by_cases hv:v∈tr
  · rw[(new v hv).1];try rfl
  · rw[←aY v hv];exact h
 have le:∀W:List Int,sJ σ' W≤sJ σ W:=fun W=>List.countP_mono_left fun v _ h=>mono v h
 unfold sJ at *
 induction V with
 | nil=>cases hV
 | cons v V ih=>
  simp only[List.countP_cons]
  have hle:=le V
  rcases cL.1 hV with rfl | hV
  · have h1:(σ m).isNone=true:=by rw[(new m hm).1];try rfl
    have h2:(σ' m).isNone=false:=by
     cases h:σ' m with
     | none=>exact absurd h (new m hm).2
     | some _=>rfl
    simp only[h1,h2,eN,iF,dA]
    omega
  · have:=ih hV
    have h3:=mono v
    by_cases h4:(σ' v).isNone=true
    · rw[aN h4,aN (h3 h4)];omega
    · rw[aK h4];split<;>omega
theorem fN.JG{σ:Sub}{V:List Int}(hr:l4 V σ){f:Nat}{t u:Tm}(h:fN σ f t u)(ht:gH V t):gH V u:=h.all (p:=gH V) (fun n u hu=>hr n u hu) ht
theorem gH.l8{V:List Int}{t x:Tm}(h:gH V t)(hk:t.k≠1)(hx:x∈t.ts):gH V x:=fun v hv=>h v (by cases t;exact(Tm.nQ hk).2 ⟨x,hx,hv⟩)
theorem aLC:∀(g:Nat),(∀σ a b r σ' tr V,dN σ→dF g σ a b=some (r,σ',tr)→l4 V σ→gH V a→gH V b→l4 V σ'∧∀m∈tr,m∈V) ∧
 ∀xs ys σ r σ' tr V,dN σ→xs.length=ys.length→fF g σ xs ys=some (r,σ',tr)→l4 V σ→(∀x∈xs,gH V x)→(∀y∈ys,gH V y)→l4 V σ'∧∀m∈tr,m∈V:=by
 intro g
 have list:∀g,(∀σ a b r σ' tr V,dN σ→dF g σ a b=some (r,σ',tr)→l4 V σ→gH V a→gH V b→l4 V σ'∧∀m∈tr,m∈V) →
  ∀xs ys σ r σ' tr V,dN σ→xs.length=ys.length→fF g σ xs ys=some (r,σ',tr)→l4 V σ→(∀x∈xs,gH V x)→(∀y∈ys,gH V y)→l4 V σ'∧∀m∈tr,m∈V:=by
  intro g ihU xs
  induction xs with
  | nil=>
   intro ys σ r σ' tr V hg hl h hr _ _
   cases ys with
   | cons _ _=>simp at hl
   | nil=>
    simp only[fF,Option.some.injEq,Prod.mk.injEq] at h
    obtain⟨rfl,rfl,rfl⟩:=h
    exact⟨hr,fun _ h=>absurd h (c8)⟩
  | cons a xs ih=>
   intro ys σ r σ' tr V hg hl h hr hx hy
   cases ys with
   | nil=>simp at hl
   | cons b ys=>
    rw[fF] at h
    cases h1:dF g σ a b with
    | none=>rw[h1] at h;cases h
    | some p=>
     obtain⟨r1,σ1,tr1⟩:=p
     have U1:=GZ hg h1
     obtain⟨i1,i2⟩:=ihU σ a b r1 σ1 tr1 V hg h1 hr (hx a (by simp)) (hy b (by simp))
     rw[h1] at h
     cases r1 with
     | false=>
      simp only[Option.some.injEq,Prod.mk.injEq] at h
      obtain⟨rfl,rfl,rfl⟩:=h
      exact⟨i1,i2⟩
     | true=>
      simp only at h
      cases h2:fF g σ1 xs ys with
      | none=>rw[h2] at h;cases h
      | some p2=>
       obtain⟨r2,σ2,tr2⟩:=p2
       rw[h2] at h
       simp only[Option.some.injEq,Prod.mk.injEq] at h
       obtain⟨rfl,rfl,rfl⟩:=h
       obtain⟨j1,j2⟩:=ih ys σ1 r2 σ2 tr2 V U1.iL (by simpa using hl) h2 i1 (fun x h=>hx x (by simp [h])) (fun y h=>hy y (by simp [h]))
       exact⟨j1,fun m hm=>(fG.1 hm).elim (i2 m) (j2 m)⟩
 induction g with
 | zero=>
  have h0:∀σ a b r σ' tr V,dN σ→dF 0 σ a b=some (r,σ',tr)→l4 V σ→gH V a→gH V b→l4 V σ'∧∀m∈tr,m∈V:=fun σ a b r σ' tr V hg h=>by simp only[dF] at h;cases h
  exact⟨h0,list 0 h0⟩
 | succ g ih=>
  suffices hU:∀σ a b r σ' tr V,dN σ→dF (g+1) σ a b=some (r,σ',tr)→l4 V σ→gH V a→gH V b→l4 V σ'∧∀m∈tr,m∈V from ⟨hU,list _ hU⟩
  intro σ a b r σ' tr V hg h hr ha hb
  obtain⟨_,ihL⟩:=ih
  obtain⟨rk,B,G⟩:=hg.rs
  obtain⟨fa,wa⟩:=G.wk a
  obtain⟨fb,wb⟩:=G.wk b
  have va:=wa.JG hr ha
  have vb:=wb.JG hr hb
  have bn:∀n (t:Tm) r σ' tr,n∈V→gH V t→mN σ n t=(r,σ',tr)→l4 V σ'∧∀m∈tr,m∈V:=by
   intro n t r σ' tr hn ht h
   unfold mN at h
   split at h<;>cases h
   · exact⟨hr,fun _ h=>absurd h (c8)⟩
   · refine⟨fun m u hu=>?_,fun m hm=>by simp only[cL,c8,dP] at hm;rw[hm];exact hn⟩
     simp only[Sub.set] at hu
     split at hu
     · cases hu;exact ht
     · exact hr m u hu
  rw[dF] at h
  generalize wk σ a=a at *
  generalize wk σ b=b at *
  split at h
  · simp only[Option.some.injEq,Prod.mk.injEq] at h
    obtain⟨rfl,rfl,rfl⟩:=h
    exact⟨hr,fun _ h=>absurd h (c8)⟩
  · split at h
    · rename_i hk
      exact bn _ _ _ _ _ (va _ (by rw[Tm.aLN hk];simp)) vb (mL h)
    · rename_i hka
      split at h
      · rename_i hk
        exact bn _ _ _ _ _ (vb _ (by rw[Tm.aLN hk];simp)) va (mL h)
      · rename_i hkb
        split at h
        · rename_i hh
          exact ihL a.ts b.ts σ r σ' tr V hg (yU.1 hh).2.2.2 h hr (fun x hx=>va.l8 hka hx) (fun y hy=>vb.l8 hkb hy)
        · simp only[Option.some.injEq,Prod.mk.injEq] at h
          obtain⟨rfl,rfl,rfl⟩:=h
          exact⟨hr,fun _ h=>absurd h (c8)⟩
def dI(p:Tm→Prop)(σ:Sub):Prop:=∀n u,σ n=some u→p u
theorem aLB{p:Tm→Prop}(hp:∀t:Tm,t.k≠1→p t→∀x∈t.ts,p x):∀(g:Nat),(∀σ a b r σ' tr,dN σ→dF g σ a b=some (r,σ',tr)→dI p σ→p a→p b→dI p σ') ∧
 ∀xs ys σ r σ' tr,dN σ→xs.length=ys.length→fF g σ xs ys=some (r,σ',tr)→dI p σ→(∀x∈xs,p x)→(∀y∈ys,p y)→dI p σ':=by
 intro g
 have list:∀g,(∀σ a b r σ' tr,dN σ→dF g σ a b=some (r,σ',tr)→dI p σ→p a→p b→dI p σ') →
  ∀xs ys σ r σ' tr,dN σ→xs.length=ys.length→fF g σ xs ys=some (r,σ',tr)→dI p σ→(∀x∈xs,p x)→(∀y∈ys,p y)→dI p σ':=by
  intro g ihU xs
  induction xs with
  | nil=>
   intro ys σ r σ' tr hg hl h hr _ _
   cases ys with
   | cons _ _=>simp at hl
   | nil=>
    simp only[fF,Option.some.injEq,Prod.mk.injEq] at h
    obtain⟨rfl,rfl,rfl⟩:=h
    exact hr
  | cons a xs ih=>
   intro ys σ r σ' tr hg hl h hr hx hy
   cases ys with
   | nil=>simp at hl
   | cons b ys=>
    rw[fF] at h
    cases h1:dF g σ a b with
    | none=>rw[h1] at h;cases h
    | some p=>
     obtain⟨r1,σ1,tr1⟩:=p
     have U1:=GZ hg h1
     have i1:=ihU σ a b r1 σ1 tr1 hg h1 hr (hx a (by simp)) (hy b (by simp))
     rw[h1] at h
     cases r1 with
     | false=>
      simp only[Option.some.injEq,Prod.mk.injEq] at h
      obtain⟨rfl,rfl,rfl⟩:=h
      exact i1
     | true=>
      simp only at h
      cases h2:fF g σ1 xs ys with
      | none=>rw[h2] at h;cases h
      | some p2=>
       obtain⟨r2,σ2,tr2⟩:=p2
       rw[h2] at h
       simp only[Option.some.injEq,Prod.mk.injEq] at h
       obtain⟨rfl,rfl,rfl⟩:=h
       have j1:=ih ys σ1 r2 σ2 tr2 U1.iL (by simpa using hl) h2 i1 (fun x h=>hx x (by simp [h])) (fun y h=>hy y (by simp [h]))
       exact j1
 induction g with
 | zero=>
  have h0:∀σ a b r σ' tr,dN σ→dF 0 σ a b=some (r,σ',tr)→dI p σ→p a→p b→dI p σ':=fun σ a b r σ' tr hg h=>by simp only[dF] at h;cases h
  exact⟨h0,list 0 h0⟩
 | succ g ih=>
  suffices hU:∀σ a b r σ' tr,dN σ→dF (g+1) σ a b=some (r,σ',tr)→dI p σ→p a→p b→dI p σ' from ⟨hU,list _ hU⟩
  intro σ a b r σ' tr hg h hr ha hb
  obtain⟨_,ihL⟩:=ih
  obtain⟨rk,B,G⟩:=hg.rs
  obtain⟨fa,wa⟩:=G.wk a
  obtain⟨fb,wb⟩:=G.wk b
  have va:=wa.all hr ha
  have vb:=wb.all hr hb
  have bn:∀n (t:Tm) r σ' tr,p t→mN σ n t=(r,σ',tr)→dI p σ':=by
   intro n t r σ' tr ht h
   unfold mN at h
   split at h<;>cases h
   · exact hr
   · intro m u hu
     simp only[Sub.set] at hu
     split at hu
     · cases hu;exact ht
     · exact hr m u hu
  rw[dF] at h
  generalize wk σ a=a at *
  generalize wk σ b=b at *
  split at h
  · simp only[Option.some.injEq,Prod.mk.injEq] at h
    obtain⟨rfl,rfl,rfl⟩:=h
    exact hr
  · split at h
    · rename_i hk
      exact bn _ _ _ _ _ vb (mL h)
    · rename_i hka
      split at h
      · rename_i hk
        exact bn _ _ _ _ _ va (mL h)
      · rename_i hkb
        split at h
        · rename_i hh
          exact ihL a.ts b.ts σ r σ' tr hg (yU.1 hh).2.2.2 h hr (fun x hx=>hp _ hka va x hx) (fun y hy=>hp _ hkb vb y hy)
        · simp only[Option.some.injEq,Prod.mk.injEq] at h
          obtain⟨rfl,rfl,rfl⟩:=h
          exact hr
theorem a28(V:List Int):∀(N M:Nat) (σ:Sub) (a b:Tm),dN σ→l4 V σ→gH V a→gH V b→sJ σ V≤N→(a.aV (rs σ)).nodes≤M→∃g x,dF g σ a b=some x:=by
 intro N
 induction N using Nat.strongRecOn with
 | _ N ihN=>
 intro M
 induction M using Nat.strongRecOn with
 | _ M ihM=>
 intro σ a b hg hr ha hb hN hM
 have list:∀(xs ys:List Tm) (σ1:Sub),xs.length=ys.length→dN σ1→l4 V σ1→(σ1=σ∨sJ σ1 V<sJ σ V)→(∀x∈xs,gH V x∧(x.aV (rs σ)).nodes<M)→(∀y∈ys,gH V y)→∃g x,fF g σ1 xs ys=some x:=by
  intro xs
  induction xs with
  | nil=>
   intro ys σ1 hl _ _ _ _ _
   cases ys with
   | cons _ _=>simp at hl
   | nil=>exact⟨0,(true,σ1,[]),by simp only[fF]⟩
  | cons x xs ih=>
   intro ys σ1 hl hg1 hr1 hc hx hy
   cases ys with
   | nil=>simp at hl
   | cons y ys=>
    have h1:∃g p,dF g σ1 x y=some p:=by
     rcases hc with rfl | hlt
     · exact ihM _ (hx x (by simp)).2 σ1 x y hg1 hr1 (hx x (by simp)).1 (hy y (by simp)) hN (cX _)
     · exact ihN (sJ σ1 V) (by omega) _ σ1 x y hg1 hr1 (hx x (by simp)).1 (hy y (by simp)) (cX _) (cX _)
    obtain⟨g1,⟨r1,σ2,tr1⟩,h1⟩:=h1
    have U1:=GZ hg1 h1
    obtain⟨i1,i2⟩:=(aLC g1).1 σ1 x y r1 σ2 tr1 V hg1 h1 hr1 (hx x (by simp)).1 (hy y (by simp))
    cases r1 with
    | false=>exact⟨g1,(false,σ2,tr1),by rw[fF,h1]⟩
    | true=>
     have hc2:σ2=σ∨sJ σ2 V<sJ σ V:=by
      cases htr:tr1 with
      | nil=>rw[U1.same htr];exact hc
      | cons m _=>
       have:=a23 (V:=V) U1.aY U1.new (m:=m) (by rw[htr];simp) (i2 m (by rw[htr];simp))
       rcases hc with rfl | hlt
       · exact .inr this
       · exact .inr (Nat.lt_trans this hlt)
     obtain⟨g2,p2,h2⟩:=ih ys σ2 (by simpa using hl) U1.iL i1 hc2 (fun z hz=>hx z (by simp [hz])) (fun z hz=>hy z (by simp [hz]))
     obtain⟨r2,σ3,tr2⟩:=p2
     refine⟨max g1 g2,(r2,σ3,tr1++tr2),?_⟩
     rw[fF,LB (Nat.le_max_left g1 g2) h1]
     simp only
     rw[a3A (Nat.le_max_right g1 g2) h2]
 obtain⟨rk,B,G⟩:=hg.rs
 obtain⟨fa,wa⟩:=G.wk a
 obtain⟨fb,wb⟩:=G.wk b
 have va:=wa.JG hr ha
 have vb:=wb.JG hr hb
 have hma:=wa.aV G.wU
 rw[←hma] at hM
 by_cases h1:(wk σ a).k=1∧(wk σ b).k=1∧(wk σ a).n=(wk σ b).n
 · exact⟨1,_,by rw[dF,aN h1]⟩
 by_cases h2:(wk σ a).k=1
 · exact⟨1,_,by rw[dF,aK h1,aN h2]⟩
 by_cases h3:(wk σ b).k=1
 · exact⟨1,_,by rw[dF,aK h1,aK h2,aN h3]⟩
 by_cases h4:yT (wk σ a) (wk σ b)=true
 · have aXG:∀x∈(wk σ a).ts,gH V x∧(x.aV (rs σ)).nodes<M:=fun x hx=>by
    refine⟨va.l8 h2 hx,?_⟩
    rw[Tm.tQ _ h2,Tm.gR] at hM
    have:=GD (f:=Tm.nodes) (cM.2 ⟨x,hx,rfl⟩:x.aV (rs σ)∈(wk σ a).ts.map (Tm.aV (rs σ)))
    omega
   obtain⟨g,x,h⟩:=list (wk σ a).ts (wk σ b).ts σ (yU.1 h4).2.2.2 hg hr (.inl rfl) aXG (fun y hy=>vb.l8 h3 hy)
   exact⟨g+1,x,by rw[dF,aK h1,aK h2,aK h3,aN h4];exact h⟩
 · exact⟨1,_,by rw[dF,aK h1,aK h2,aK h3,aK h4]⟩
mutual
def Tm.flat:Tm→Nat→Bool
 | .mk _ _ _ _,0=>false
 | .mk _ _ _ ts,d+1=>KU ts d
def KU:List Tm→Nat→Bool
 | [],_=>true
 | t::ts,d=>t.flat d&&KU ts d
end
theorem aKR:∀(ts:List Tm) (d:Nat),KU ts d=ts.all fun t=>t.flat d
 | [],_=>rfl
 | t::ts,d=>by simp only[KU,iS,aKR ts d]
theorem Tm.IT(t:Tm):t.flat 0=false:=by cases t;simp only[Tm.flat]
theorem Tm.yL(k n:Int)(s:ByteArray)(ts:List Tm)(d:Nat):(Tm.mk k n s ts).flat (d+1)=ts.all fun t=>t.flat d:=by simp only[Tm.flat,aKR]
mutual
def Tm.kU:Tm→Bool
 | .mk k n s ts=>dY k n s ts.length&&KX ts
def KX:List Tm→Bool
 | []=>true
 | t::ts=>t.kU&&KX ts
end
theorem aKU:∀(ts:List Tm),KX ts=ts.all Tm.kU
 | []=>rfl
 | t::ts=>by simp only[KX,iS,aKU ts]
theorem Tm.y9(k n:Int)(s:ByteArray)(ts:List Tm):(Tm.mk k n s ts).kU=(dY k n s ts.length&&ts.all Tm.kU):=by simp only[Tm.kU,aKU]
theorem SO{α:Type}(p q:α→Bool):∀l:List α,(l.all fun x=>p x&&q x)=(l.all p&&l.all q)
 | []=>rfl
 | x::l=>by simp only[iS,SO p q l];cases p x<;>cases q x<;>cases l.all p<;>simp
theorem Tm.aIX:∀(t:Tm) (d:Nat),t.shape (d:Int)=(t.kU&&t.flat d):=by
 intro t
 induction t using Tm.ind with
 | h k n s ts ih=>
  intro d
  cases d with
  | zero=>rw[Tm.IT,rI,Tm.zL];try rfl
  | succ d=>
   rw[Tm.zL,Tm.y9,Tm.yL,show decide ((1:Int)≤((d+1:Nat):Int))=true by simp;omega,cZ,Bool.and_assoc,←SO]
   congr 1
   rw[show(((d+1:Nat):Int) - 1)=(d:Int) by omega]
   have:∀l:List Tm,(∀x∈l,x∈ts)→(l.all fun t=>t.shape (d:Int))=l.all fun x=>x.kU&&x.flat d:=by
    intro l
    induction l with
    | nil=>intro _;rfl
    | cons x l ihl=>intro h;rw[iS,iS,ih x (h x (by simp)),ihl fun y hy=>h y (by simp [hy])]
   exact this ts fun _ h=>h
theorem Tm.a3E{t:Tm}(h:t.valid=true):t.kU=true:=by
 simp only[Tm.valid,bD] at h
 have:=h.1
 rw[show(30:Int)=((30:Nat):Int) from rfl,Tm.aIX,bD] at this
 exact this.1
theorem Tm.aLG{t:Tm}(h:t.kU=true):t.valid=(t.flat 30&&decide (t.nodes≤120)):=by
 unfold Tm.valid
 rw[show(30:Int)=((30:Nat):Int) from rfl,Tm.aIX,h,cZ]
theorem Tm.JP{k n:Int}{s:ByteArray}{ts:List Tm}(h:(Tm.mk k n s ts).kU=true):dY k n s ts.length=true∧∀x∈ts,x.kU=true:=by
 rw[Tm.y9,bD] at h
 exact⟨h.1,c6.1 h.2⟩
theorem aH2{n:Int}{s:ByteArray}{len:Int}(h:dY 1 n s len=true):0≤n∧n≤25∧s=⟨#[]⟩∧len=0:=by
 simp [dY] at h
 exact⟨h.1.1.1,h.1.1.2,h.1.2,h.2⟩
theorem aZW{k n:Int}{s:ByteArray}{len:Int}(h:dY k n s len=true):(k=1∨k=2∨k=3)∧len≤4:=by
 unfold dY at h
 by_cases h1:k=1
 · simp [h1] at h;omega
 · by_cases h2:k=2
   · simp [h2] at h;omega
   · by_cases h3:k=3
     · simp [h3] at h;omega
     · simp [h1,h2,h3] at h
theorem Tm.aZL:∀(t:Tm),t.kU=true→t.cv=true:=by
 intro t
 induction t using Tm.ind with
 | h k n s ts ih=>
  intro h
  obtain⟨h1,h2⟩:=Tm.JP h
  refine Tm.mZ.2 ⟨fun hk=>?_,fun x hx=>ih x hx (h2 x hx)⟩
  subst hk
  obtain⟨_,_,h3,h4⟩:=aH2 h1
  exact⟨h3,oQ (by omega)⟩
def HG:List Int:=(List.range 26).map fun i:Nat=>(i:Int)
theorem FN{n:Int}:n∈HG↔0≤n∧n≤25:=by
 simp only[HG,cM,xU]
 constructor
 · rintro⟨i,h,rfl⟩;omega
 · intro h;exact⟨n.toNat,by omega,by omega⟩
theorem Tm.aZM:∀(t:Tm),t.kU=true→gH HG t:=by
 intro t
 induction t using Tm.ind with
 | h k n s ts ih=>
  intro h v hv
  obtain⟨h1,h2⟩:=Tm.JP h
  by_cases hk:k=1
  · rw[Tm.oN hk] at hv
    simp only[cL,c8,dP] at hv
    subst hv hk
    obtain⟨h3,h4,_⟩:=aH2 h1
    exact FN.2 ⟨h3,h4⟩
  · obtain⟨x,hx,hvx⟩:=(Tm.nQ hk).1 hv
    exact ih x hx (h2 x hx) v hvx
theorem aY7{f:Int→Tm}:∀(t:Tm),t.kU=true→(∀v∈t.vl,(f v).kU=true)→(t.aV f).kU=true:=by
 intro t
 induction t using Tm.ind with
 | h k n s ts ih=>
  intro h hf
  obtain⟨h1,h2⟩:=Tm.JP h
  by_cases hk:k=1
  · rw[Tm.pR f hk];exact hf n (by rw[Tm.oN hk];simp)
  · rw[Tm.mQ f hk,Tm.y9,aE,h1,cZ,List.all_map,c6]
    exact fun x hx=>ih x hx (h2 x hx) fun v hv=>hf v ((Tm.nQ hk).2 ⟨x,hx,hv⟩)
theorem aLO{n:Int}(h:n∈HG):(vr n).kU=true:=by
 rw[FN] at h
 rw[vr,Tm.y9]
 simp [dY,h]
theorem a26{g g':Nat}{σ:Sub}{a b:Tm}{x y:Bool×Sub×List Int}(h:dF g σ a b=some x)(h':dF g' σ a b=some y):x=y:=by
 have h1:=LB (Nat.le_max_left g g') h
 rw[LB (Nat.le_max_right g g') h'] at h1
 exact(mL h1).symm
theorem aHJ:∀ {l V:List Int},l.Nodup→(∀x∈l,x∈V)→l.length≤V.length
 | [],_,_,_=>iI _
 | x::l,V,h,hV=>by
  rw[List.nodup_cons] at h
  have hx:=hV x (by simp)
  have:=aHJ (V:=V.erase x) h.2 fun y hy=>(List.mem_erase_of_ne (by rintro rfl;exact h.1 hy)).2 (hV y (by simp [hy]))
  rw[List.length_erase_of_mem hx] at this
  have:=List.length_pos_of_mem hx
  simp only[aX]
  omega
abbrev zt:AV:=.agg [.int .i64 0,.int .i64 0,.str ⟨#[]⟩,.fslice []]
theorem RA(t:Tm):t.wf=true→∀l:List Int,(∀v,v∈t.vars l↔v∈l∨v∈t.vl)∧(l.Nodup→(t.vars l).Nodup)∧∃m,t.vars l=l++m:=by
 induction t using Tm.ind with
 | h k n s ts ih=>
  intro h l
  obtain⟨hk,hw⟩:=Tm.aLP h
  have list:∀xs:List Tm,(∀x∈xs,x∈ts)→∀l:List Int,(∀v,v∈cE xs l↔v∈l∨∃x∈xs,v∈x.vl)∧(l.Nodup→(cE xs l).Nodup)∧∃m,cE xs l=l++m:=by
   intro xs
   induction xs with
   | nil=>intro _ l;exact⟨by simp [cE],fun h=>h,[],by simp [cE]⟩
   | cons x xs ihx=>
    intro hs l
    obtain⟨a1,a2,m1,a3⟩:=ih x (hs x (by simp)) (hw x (hs x (by simp))) l
    obtain⟨b1,b2,m2,b3⟩:=ihx (fun y hy=>hs y (by simp [hy])) (x.vars l)
    simp only[cE]
    refine⟨fun v=>?_,fun hn=>b2 (a2 hn),m1++m2,by rw[b3,a3,p9]⟩
    rw[b1,a1]
    simp [or_assoc]
  rw[Tm.vars]
  by_cases hk1:k=1
  · obtain rfl:=hk hk1
    rw[Tm.oN hk1]
    simp only[cE]
    split
    · rename_i hc
      refine⟨fun v=>by simp,fun hn=>?_,[n],rfl⟩
      rw[xV]
      refine⟨hn,by simp,fun x hx y hy e=>?_⟩
      simp only[cL,c8,dP] at hy
      subst hy e
      exact hc.2 hx
    · rename_i hc
      refine⟨fun v=>?_,fun hn=>hn,[],by simp⟩
      have hm:n∈l:=G6 fun h=>hc ⟨hk1,h⟩
      simp only[cL,c8,dP]
      exact⟨.inl,fun h=>h.elim id fun e=>e▸hm⟩
  · rw[aK (by simp [hk1])]
    obtain⟨c1,c2,c3⟩:=list ts (fun _ h=>h) l
    exact⟨fun v=>by rw[c1,Tm.nQ hk1],c2,c3⟩
theorem Tm.a3F{v:Int}:∀(t:Tm) (l:List Int),t.cv=true→(v∈t.vars l↔v∈l∨v∈t.vl):=by
 intro t
 induction t using Tm.ind with
 | h k n s ts ih=>
  intro l hcv
  obtain⟨h1,h2⟩:=Tm.mZ.1 hcv
  have key:∀(ts:List Tm) (l:List Int),(∀t∈ts,∀l,v∈t.vars l↔v∈l∨v∈t.vl)→(v∈cE ts l↔v∈l∨∃t∈ts,v∈t.vl):=by
   intro ts
   induction ts with
   | nil=>intro l _;simp [cE]
   | cons t ts iht=>
    intro l h
    simp only[cE]
    rw[iht _ (fun x hx=>h x (by simp [hx])),h t (by simp)]
    simp [or_assoc]
  simp only[Tm.vars]
  rw[key ts _ (fun t ht l=>ih t ht l (h2 t ht))]
  by_cases hk:k=1
  · obtain⟨rfl,rfl⟩:=h1 hk
    rw[Tm.oN hk]
    by_cases hn:n∈l
    · simp [hk,hn];exact fun e=>e▸hn
    · simp [hk,hn]
  · rw[Tm.nQ hk];simp [hk]
theorem DN{v:Int}:∀(ts:List Tm) (l:List Int),(∀t∈ts,t.cv=true)→(v∈cE ts l↔v∈l∨∃t∈ts,v∈t.vl)
 | [],l,_=>by simp [cE]
 | t::ts,l,h=>by
  simp only[cE]
  rw[DN ts _ (fun x hx=>h x (by simp [hx])),Tm.a3F t l (h t (by simp))]
  simp [or_assoc]
theorem a3G{σ:Sub}{R:Int→Tm}{rk:Int→Nat}{B:Nat}(G:Good σ R rk B){n:Int}{W:List Int}(hW:∀w∈W,w≠n∧∀u,σ w=some u→∀v∈u.vl,v∈W):∀w∈W,n∉(R w).vl:=by
 refine fun w=>G.ind (p:=fun w=>w∈W→n∉(R w).vl) (fun w h hw hm=>?_) (fun w u h ih hw hm=>?_) w
 · rw[G.free h,DT] at hm
   simp only[cL,c8,dP] at hm
   exact(hW w hw).1 hm.symm
 · rw[G.bound h] at hm
   obtain⟨v,hv,hnv⟩:=(zZ u).1 hm
   exact ih v hv ((hW w hw).2 u h v hv) hnv
theorem aV9{w:Nat}{l:List AV}{i:Nat}{e:AV}(hw:∀e∈l,e.width=w)(h:l[i]?=some e) :
 ∃A B,l.flatMap AV.cells=A++e.cells++B∧A.length=i*w∧∀e',(l.set i e').flatMap AV.cells=A++e'.cells++B:=by
 obtain⟨hi,he⟩:=fM.1 h
 refine⟨(l.take i).flatMap AV.cells,(l.drop (i+1)).flatMap AV.cells,?_,?_,fun e'=>?_⟩
 · have:l=l.take i++e::l.drop (i+1):=by rw[←he,←uA hi,DZ]
   conv=>lhs;rw[this]
   simp
 · rw[lQ (fun e he=>hw e (lY he)),dK,oS (by omega)]
 · rw[HB,aN hi]
   simp
def cellOf:Option Tm→AV
 | some u=>u.av
 | none=>zt
theorem H6(o:Option Tm):(cellOf o).width=4:=by cases o<;>first | rfl | exact aP _
theorem aR8(o:Option Tm):(cellOf o).cells.length=4:=by rw[BJ,H6]
end Go.AW
namespace Go.AW
open Go.Proofs.Tryz
abbrev fB (l:List Tm):AV:=.agg [.slice (l.map Tm.av)]
theorem Tm.FA{t:Tm}(h:t.goal=true):t.valid=true:=by
 cases t;simp only[Tm.goal,bD] at h;exact h.1
theorem aID{q:List Tm}(h:eP q=true):(∀t∈q,t.valid=true)∧q.length≤6:=by
 simp only[eP,bD,bA,c6] at h
 exact⟨fun t ht=>Tm.FA (h.2 t ht),h.1⟩
theorem a0B{q:List Tm}(h:eP q=true):bH Tm.nodes q≤1099511627776:=by
 obtain⟨h1,h2⟩:=aID h
 have:=a1Z h1
 omega
def yK(q aLJ:List Tm):Bool:=eP q&&decide (aLJ.length=(cE q []).length)&&aLJ.all Tm.valid
end Go.AW
namespace Go.AW
def n8(c:UInt8):List ByteArray→ByteArray
 | []=>⟨#[]⟩
 | x::xs=>xs.foldl (fun o y=>(o++⟨#[c]⟩)++y) x
theorem aYG{c:UInt8}{l:List ByteArray}{x:ByteArray}(h:l≠[]):n8 c (l++ [x])=(n8 c l++⟨#[c]⟩)++x:=by
 cases l with
 | nil=>exact absurd rfl h
 | cons y l=>simp [n8,HA]
theorem aN9(a:ByteArray):(⟨#[]⟩:ByteArray)++a=a:=by apply ByteArray.ext;simp [ByteArray.data_append]
theorem aYF{c:UInt8}{l:List ByteArray}{B:Nat}(h:∀x∈l,x.size≤B):(n8 c l).size≤l.length*(B+1):=by
 have hg:∀(xs:List ByteArray) (o:ByteArray),(∀x∈xs,x.size≤B)→(xs.foldl (fun o y=>(o++⟨#[c]⟩)++y) o).size≤o.size+xs.length*(B+1):=by
  intro xs
  induction xs with
  | nil=>intro o _;simp
  | cons x xs ih=>
   intro o hx
   rw[uC]
   refine lZ (ih _ fun y hy=>hx y (by simp [hy])) ?_
   rw[cG,cG]
   have:=hx x (by simp)
   rw[aX,qA]
   show o.size+1+_+_≤_
   omega
 cases l with
 | nil=>exact iI _
 | cons x l=>
  refine lZ (hg l x fun y hy=>h y (by simp [hy])) ?_
  have:=h x (by simp)
  rw[aX,qA]
  omega
def mX(v:Int)(t:Tm):ByteArray:=(tO v++⟨#[61]⟩)++tx 1000 t
def HR(vars:List Int)(a:List Tm):ByteArray:=if vars= [] then⟨#[121,101,115]⟩ else n8 59 ((vars.zip a).map fun p=>mX p.1 p.2)
def yM(q a:List Tm):ByteArray:=if yK q a=true then HR (cE q []) a else⟨#[]⟩

theorem aY6:∀t:Tm,t.cv=true→t.aV vr=t:=by
 intro t
 induction t using Tm.ind with
 | h k n s ts ih=>
  intro h
  obtain⟨h1,h2⟩:=Tm.mZ.1 h
  by_cases hk:k=1
  · obtain⟨rfl,rfl⟩:=h1 hk
    rw[Tm.pR vr hk,hk];try rfl
  · rw[Tm.mQ vr hk]
    congr 1
    have:∀l:List Tm,(∀x∈l,x∈ts)→l.map (Tm.aV vr)=l:=by
     intro l
     induction l with
     | nil=>intro _;rfl
     | cons x l ihl=>intro hl;rw[bL,ih x (hl x (by simp)) (h2 x (hl x (by simp))),ihl fun y hy=>hl y (by simp [hy])]
    exact this ts fun _ h=>h
def zH(l:List Tm):List Tm:=l.map fun t=>t.aV fun v=>vr (iB v (cE l []) 0)
def oZ:List ByteArray:=[⟨#[43]⟩,⟨#[45]⟩,⟨#[42]⟩,⟨#[47,47]⟩,⟨#[109,111,100]⟩]
def BQ:List ByteArray:=[⟨#[60]⟩,⟨#[62]⟩,⟨#[61,60]⟩,⟨#[62,61]⟩,⟨#[61,58,61]⟩]
def iM(l:List ByteArray)(s:ByteArray):Bool:=l.any fun x=>decide (s=x)
def gS(n:Int):Int×Int:=if -999≤n∧n≤999 then(n,0) else(0,5)
def pG(a b:Int):Int:=if a.tmod b≠0∧decide (a.tmod b<0)≠decide (b<0) then a.tmod b+b else a.tmod b
def qH(s:ByteArray)(a b:Int):Int×Int:=
 if s=⟨#[43]⟩ then gS (a+b) else if s=⟨#[45]⟩ then gS (a - b) else if s=⟨#[42]⟩ then gS (a*b) else if b=0 then(0,4) else if s=⟨#[109,111,100]⟩ then(pG a b,0) else(a.tdiv b,0)
def both(f:Int→Int→Int×Int)(x y:Int×Int):Int×Int:=if x.2≠0 then(0,x.2) else if y.2≠0 then(0,y.2) else f x.1 y.1
def two(f:Int→Int→Int×Int):List (Int×Int)→Int×Int
 | [x,y]=>both f x y
 | _=>(0,3)
mutual
def Tm.ev:Tm→Int×Int
 | .mk k n s ts=>if k=2 then(n,0) else if k=1 then(0,2) else if iM oZ s=true then two (qH s) (KT ts) else(0,3)
def KT:List Tm→List (Int×Int)
 | []=>[]
 | t::ts=>t.ev::KT ts
end
theorem aKQ:∀ts:List Tm,KT ts=ts.map Tm.ev
 | []=>rfl
 | t::ts=>by simp only[KT,bL,aKQ ts]
theorem Tm.IP(k n:Int)(s:ByteArray)(ts:List Tm):(Tm.mk k n s ts).ev=if k=2 then(n,0) else if k=1 then(0,2) else if iM oZ s=true then two (qH s) (ts.map Tm.ev) else(0,3):=by simp only[Tm.ev,aKQ]
theorem KQ(a b:Int)(hb:b≠0):(0<b→-b<a.tmod b∧a.tmod b<b)∧(b<0→b<a.tmod b∧a.tmod b< -b):=by
 have h1:=LP (-a) (b:=b)
 have h2:=LP a (b:=b)
 have h3:=LP (-a) (b:= -b)
 have h4:=LP a (b:= -b)
 rw[Int.tmod_neg] at h3 h4
 rw[Int.neg_tmod] at h1 h3
 constructor
 · intro h;exact⟨by have:=h1 h;omega,h2 h⟩
 · intro h;exact⟨by have:=h3 (by omega);omega,h4 (by omega)⟩
theorem tdiv_le(a b:Int)(ha: -999≤a∧a≤999): -999≤a.tdiv b∧a.tdiv b≤999:=by
 have:(a.tdiv b).natAbs≤a.natAbs:=by rw[Int.natAbs_tdiv];exact Nat.div_le_self _ _
 omega
theorem PQ(n:Int): -999≤(gS n).1∧(gS n).1≤999:=by unfold gS;split<;>simp_all
theorem aFO(a b:Int)(ha: -999≤a∧a≤999)(hb: -999≤b∧b≤999)(h0:b≠0): -999≤pG a b∧pG a b≤999:=by
 have h1:=KQ a b h0
 unfold pG
 split
 · rename_i h
   have h2:=h.2
   by_cases hb':b<0
   · have:¬a.tmod b<0:=by intro hc;simp [hb',hc] at h2
     have:=h1.2 hb'
     omega
   · have:a.tmod b<0:=by
      apply G6;intro hc;simp [hb',hc] at h2
     have:=h1.1 (by omega)
     omega
 · rcases Int.lt_or_gt_of_ne h0 with h | h
   · have:=h1.2 h;omega
   · have:=h1.1 h;omega
theorem SL(m b:Int)(h1:0≤m)(h2:m<b):(m+b).tmod b=m:=by
 obtain⟨x,rfl⟩:∃x:Nat,m=x:=⟨m.toNat,by omega⟩
 obtain⟨y,rfl⟩:∃y:Nat,b=y:=⟨b.toNat,by omega⟩
 rw[show(x:Int)+(y:Int)=((x+y:Nat):Int) by omega,←Int.ofNat_tmod,Nat.add_mod_right,D1 (by omega)]
theorem aWA(a b:Int)(h0:b≠0):(a.tmod b+b).tmod b=pG a b:=by
 have h1:=KQ a b h0
 have hs:∀x:Int,0≤x→x<b→x.tmod b=x:=fun x h2 h3=>Int.tmod_eq_of_lt h2 h3
 have hn:∀x:Int,x≤0→b<x→x.tmod b=x:=fun x h2 h3=>by
  have:=Int.tmod_eq_of_lt (a:= -x) (b:= -b) (by omega) (by omega)
  rw[Int.tmod_neg,Int.neg_tmod] at this
  omega
 unfold pG
 generalize a.tmod b=m at *
 by_cases hb:b<0
 · have h2:=h1.2 hb
   by_cases hm:m<0
   · rw[aK (by simp [hb,hm])]
     rw[show m+b=b+m by omega]
     have e:(b+m).tmod b=((-b)+(-m)).tmod (-b)*(-1):=by
      rw[show(-b)+(-m)= -(b+m) by omega,Int.neg_tmod,Int.tmod_neg];omega
     rw[e,Int.add_comm,SL (-m) (-b) (by omega) (by omega)]
     omega
   · by_cases hm0:m=0
     · subst hm0;rw[aK (by simp),Int.zero_add,Int.tmod_self]
     · rw[aN ⟨hm0,by simp [hb,hm]⟩]
       exact hn _ (by omega) (by omega)
 · have h2:=h1.1 (by omega)
   by_cases hm:m<0
   · rw[aN ⟨by omega,by simp [hb,hm]⟩]
     exact hs _ (by omega) (by omega)
   · rw[aK (by simp [hb,hm])]
     rw[SL m b (by omega) (by omega)]
def dD(N:Int)(t:Tm):Prop:=(t.aV fun _=>vr 0).kU=true∧t.cv=true∧∀v∈t.vl,0≤v∧v<N
theorem dD.mono{N M:Int}{t:Tm}(h:dD N t)(hm:N≤M):dD M t:=⟨h.1,h.2.1,fun v hv=>⟨(h.2.2 v hv).1,by have:=(h.2.2 v hv).2;omega⟩⟩
theorem dD.own{N k n:Int}{s:ByteArray}{ts:List Tm}(h:dD N (.mk k n s ts))(hk:k≠1):dY k n s ts.length=true∧∀x∈ts,dD N x:=by
 obtain⟨h1,h2,h3⟩:=h
 rw[Tm.mQ _ hk] at h1
 obtain⟨h4,h5⟩:=Tm.JP h1
 rw[aE] at h4
 exact⟨h4,fun x hx=>⟨h5 _ (cM.2 ⟨x,hx,rfl⟩),(Tm.mZ.1 h2).2 x hx,fun v hv=>h3 v ((Tm.nQ hk).2 ⟨x,hx,hv⟩)⟩⟩
theorem dD.var{N n:Int}{s:ByteArray}{ts:List Tm}(h:dD N (.mk 1 n s ts)):0≤n∧n<N∧s=⟨#[]⟩∧ts= []:=by
 obtain⟨_,h2,h3⟩:=h
 obtain⟨h4,h5⟩:=(Tm.mZ.1 h2).1 rfl
 obtain⟨h6,h7⟩:=h3 n (by rw[Tm.oN rfl];simp)
 exact⟨h6,h7,h4,h5⟩
theorem aZR(N:Int):∀t:Tm,t.k≠1→dD N t→∀x∈t.ts,dD N x:=fun t hk h x hx=>by
 cases t
 exact(h.own hk).2 x hx
theorem dD.kind{N k n:Int}{s:ByteArray}{ts:List Tm}(h:dD N (.mk k n s ts)):(k=1∨k=2∨k=3)∧ts.length≤4:=by
 by_cases hk:k=1
 · subst hk
   rw[h.var.2.2.2]
   simp
 · have:=aZW (h.own hk).1
   omega
theorem aZV{n:Int}{s:ByteArray}{len:Int}(h:dY 2 n s len=true): -999≤n∧n≤999:=by
 simp [dY] at h
 omega
theorem dD.all{N k n:Int}{s:ByteArray}{ts:List Tm}(h:dD N (.mk k n s ts)):(k=2→-999≤n∧n≤999)∧∀x∈ts,dD N x:=by
 by_cases hk:k=1
 · subst hk
   rw[h.var.2.2.2]
   simp
 · obtain⟨h1,h2⟩:=h.own hk
   refine⟨fun h2=>?_,h2⟩
   subst h2
   exact aZV h1
theorem dD.small{N:Int}:∀ {t:Tm},dD N t→t.small=true:=by
 intro t
 induction t using Tm.ind with
 | h k n s ts ih=>
  intro h
  have h4:=h.kind.2
  simp only[Tm.small,GV,bD,bA,c6]
  refine⟨by omega,fun x hx=>?_⟩
  by_cases hk:k=1
  · subst hk;rw[h.var.2.2.2] at hx;cases hx
  · exact ih x hx ((h.own hk).2 x hx)
theorem dD.aV{N M:Int}{f:Int→Tm}{t:Tm}(h:dD N t)(hf:∀v∈t.vl,dD M (f v)):dD M (t.aV f):=by
 induction t using Tm.ind with
 | h k n s ts ih=>
  by_cases hk:k=1
  · rw[Tm.pR f hk];exact hf n (by rw[Tm.oN hk];simp)
  · obtain⟨h1,h2⟩:=h.own hk
    have key:∀x∈ts,dD M (x.aV f):=fun x hx=>ih x hx (h2 x hx) fun v hv=>hf v ((Tm.nQ hk).2 ⟨x,hx,hv⟩)
    rw[Tm.mQ f hk]
    refine⟨?_,Tm.mZ.2 ⟨fun h=>absurd h hk,fun y hy=>?_⟩,fun v hv=>?_⟩
    · rw[Tm.mQ _ hk,Tm.y9,aE,aE,h1,cZ,c6]
      intro y hy
      simp only[List.map_map,cM,Function.comp_apply] at hy
      obtain⟨x,hx,rfl⟩:=hy
      exact(key x hx).1
    · obtain⟨x,hx,rfl⟩:=cM.1 hy
      exact(key x hx).2.1
    · obtain⟨y,hy,hv⟩:=(Tm.nQ hk).1 hv
      obtain⟨x,hx,rfl⟩:=cM.1 hy
      exact(key x hx).2.2 v hv
theorem JQ{N n:Int}(h0:0≤n)(h1:n<N):dD N (vr n):=by
 refine⟨by rw[CF];exact aLO (FN.2 (by omega)),Tm.mZ.2 ⟨fun _=>⟨rfl,rfl⟩,by simp⟩,fun v hv=>?_⟩
 rw[DT] at hv
 simp only[cL,c8,dP] at hv
 omega
theorem aH0{t:Tm}:t.kU=true↔dD 26 t:=by
 constructor
 · intro h
   refine⟨aY7 t h fun v _=>aLO (FN.2 (by omega)),Tm.aZL t h,fun v hv=>?_⟩
   have:=FN.1 (Tm.aZM t h v hv)
   omega
 · induction t using Tm.ind with
   | h k n s ts ih=>
    intro h
    rw[Tm.y9]
    by_cases hk:k=1
    · subst hk
      obtain⟨h0,h1,rfl,rfl⟩:=h.var
      have h1':n≤25:=by omega
      simp [dY,h0,h1']
    · obtain⟨h1,h2⟩:=h.own hk
      rw[h1,cZ,c6]
      exact fun x hx=>ih x hx (h2 x hx)
theorem Tm.G0{t:Tm}(h:t.valid=true):dD 26 t:=aH0.1 (Tm.a3E h)
theorem Good.zB{σ:Sub}{R:Int→Tm}{rk:Int→Nat}{B:Nat}(G:Good σ R rk B){N:Int}(ho:dI (dD N) σ):∀n,0≤n→n<N→dD N (R n):=by
 refine fun n=>G.ind (p:=fun n=>0≤n→n<N→dD N (R n)) (fun n h h0 h1=>?_) (fun n u h ih h0 h1=>?_) n
 · rw[G.free h];exact JQ h0 h1
 · rw[G.bound h]
   exact(ho n u h).aV fun v hv=>ih v hv ((ho n u h).2.2 v hv).1 ((ho n u h).2.2 v hv).2
theorem Good.aZQ{σ:Sub}{R:Int→Tm}{rk:Int→Nat}{B:Nat}(G:Good σ R rk B){N:Int}(ho:dI (dD N) σ){t:Tm}(h:dD N t):dD N (t.aV R):=
 h.aV fun v hv=>G.zB ho v (h.2.2 v hv).1 (h.2.2 v hv).2
def bY(N:Int)(t:Tm):Prop:=dD N t∧t.nodes≤120
theorem wZ(N:Int):∀t:Tm,t.k≠1→bY N t→∀x∈t.ts,bY N x:=fun t hk h x hx=>by
 refine⟨aZR N t hk h.1 x hx,?_⟩
 have h2:=h.2
 cases t
 rw[Tm.gR] at h2
 have:=GD (f:=Tm.nodes) hx
 simp only[Tm.ts] at this
 omega
theorem bY.mono{N M:Int}{t:Tm}(h:bY N t)(hm:N≤M):bY M t:=⟨h.1.mono hm,h.2⟩
theorem dI.zB{N:Int}{σ:Sub}(h:dI (bY N) σ):dI (dD N) σ:=fun n u e=>(h n u e).1
theorem dI.imp{p q:Tm→Prop}{σ:Sub}(h:dI p σ)(hpq:∀t,p t→q t):dI q σ:=fun n u e=>hpq u (h n u e)
open Classical in
noncomputable def nP(σ:Sub)(a b:Tm):Bool×Sub×List Int:=if h:∃x g,dF g σ a b=some x then h.choose else(false,σ,[])
theorem a29{g:Nat}{σ:Sub}{a b:Tm}{x:Bool×Sub×List Int}(h:dF g σ a b=some x):nP σ a b=x:=by
 unfold nP
 have h':∃x g,dF g σ a b=some x:=⟨x,g,h⟩
 rw[dif_pos h']
 obtain⟨g',h''⟩:=h'.choose_spec
 exact a26 h'' h
def VN(N:Nat):List Int:=(List.range N).map fun i:Nat=>(i:Int)
theorem vM{N:Nat}{n:Int}:n∈VN N↔0≤n∧n<N:=by
 simp only[VN,cM,xU]
 constructor
 · rintro⟨i,h,rfl⟩;omega
 · intro h;exact⟨n.toNat,by omega,by omega⟩
theorem aHI{N:Nat}{tr:List Int}(h:tr.Nodup)(hV:∀m∈tr,0≤m∧m<N):tr.length≤N:=by
 have:=aHJ (V:=VN N) h fun x hx=>vM.2 (hV x hx)
 simpa [VN] using this
structure L2 (N:Int) (σ:Sub) (a b:Tm) (r:Bool) (σ':Sub) (tr:List Int):Prop where
 run:∃g,dF g σ a b=some (r,σ',tr)
 eq:nP σ a b=(r,σ',tr)
 xQ:nS σ [a] [b] r σ' tr
 ok:dI (bY N) σ'
 iM:∀m∈tr,0≤m∧m<N
theorem Q8{N:Nat}{σ:Sub}{a b:Tm}(hg:dN σ)(ho:dI (bY N) σ)(ha:bY N a)(hb:bY N b):∃r σ' tr,L2 N σ a b r σ' tr:=by
 have hin:∀ {t:Tm},bY N t→gH (VN N) t:=fun h v hv=>vM.2 (h.1.2.2 v hv)
 have hr:l4 (VN N) σ:=fun n u e=>hin (ho n u e)
 obtain⟨g,⟨r,σ',tr⟩,h⟩:=a28 (VN N) _ _ σ a b hg hr (hin ha) (hin hb) (cX _) (cX _)
 obtain⟨h1,h2⟩:=(aLC g).1 σ a b r σ' tr (VN N) hg h hr (hin ha) (hin hb)
 exact⟨r,σ',tr,⟨g,h⟩,a29 h,GZ hg h,(aLB (wZ N) g).1 σ a b r σ' tr hg h ho ha hb,fun m hm=>vM.1 (h2 m hm)⟩
def Sub.out(σ:Sub)(l:List Int):Sub:=fun n=>if n∈l then Option.none else σ n
def iQ(ρ:Int→Int)(t:Tm):Tm:=t.aV fun v=>vr (ρ v)
theorem PS(ρ:Int→Int){k n:Int}{s:ByteArray}{ts:List Tm}(h:k≠1):iQ ρ (.mk k n s ts)=.mk k n s (ts.map (iQ ρ)):=Tm.mQ _ h
theorem JZ(ρ:Int→Int){t:Tm}(h:t.k=1):iQ ρ t=vr (ρ t.n):=Tm.CD _ h
theorem a0U(ρ:Int→Int){t:Tm}(h:t.k≠1):iQ ρ t=.mk t.k t.n t.s (t.ts.map (iQ ρ)):=Tm.tQ _ h
theorem a0T(ρ:Int→Int)(t:Tm):(iQ ρ t).k=t.k:=by
 by_cases h:t.k=1
 · rw[JZ ρ h,h];try rfl
 · rw[a0U ρ h];try rfl
theorem aIL(ρ:Int→Int){t:Tm}(hc:t.cv=true):(iQ ρ t).nodes=t.nodes:=by
 induction t using Tm.ind with
 | h k n s ts ih=>
  obtain⟨h1,h2⟩:=Tm.mZ.1 hc
  by_cases hk:k=1
  · obtain⟨_,rfl⟩:=h1 hk
    rw[JZ ρ (t:=.mk k n s []) hk,vr,Tm.gR,Tm.gR]
  · rw[PS ρ hk,Tm.gR,Tm.gR]
    congr 1
    have:∀l:List Tm,(∀x∈l,x∈ts)→bH Tm.nodes (l.map (iQ ρ))=bH Tm.nodes l:=by
     intro l
     induction l with
     | nil=>intro _;rfl
     | cons x l ihl=>intro h;simp only[bL,bH];rw[ih x (h x (by simp)) (h2 x (h x (by simp))),ihl fun y hy=>h y (by simp [hy])]
    exact this ts fun _ h=>h
theorem a0S(ρ:Int→Int){t:Tm}(hc:t.cv=true):∀d,(iQ ρ t).flat d=t.flat d:=by
 induction t using Tm.ind with
 | h k n s ts ih=>
  intro d
  obtain⟨h1,h2⟩:=Tm.mZ.1 hc
  cases d with
  | zero=>rw[Tm.IT,Tm.IT]
  | succ d=>
   by_cases hk:k=1
   · obtain⟨_,rfl⟩:=h1 hk
     rw[JZ ρ (t:=.mk k n s []) hk,vr,Tm.yL,Tm.yL]
   · rw[PS ρ hk,Tm.yL,Tm.yL,List.all_map]
     rw[G5,c6,c6]
     constructor
     · intro h x hx;rw[←ih x hx (h2 x hx) d];exact h x hx
     · intro h x hx;simp only[Function.comp_apply];rw[ih x hx (h2 x hx) d];exact h x hx
theorem dD.iQ{N M:Int}{ρ:Int→Int}{t:Tm}(h:dD N t)(hr:∀v∈t.vl,0≤ρ v∧ρ v<M):dD M (AW.iQ ρ t):=h.aV fun v hv=>JQ (hr v hv).1 (hr v hv).2
theorem bY.iQ{N M:Int}{ρ:Int→Int}{t:Tm}(h:bY N t)(hr:∀v∈t.vl,0≤ρ v∧ρ v<M):bY M (AW.iQ ρ t):=⟨h.1.iQ hr,by rw[aIL ρ h.1.2.1];exact h.2⟩
structure Sim (ρ:Int→Int) (N:Int) (σ τ:Sub):Prop where
 inj:∀v w,0≤v→v<N→0≤w→w<N→ρ v=ρ w→v=w
 map:∀v,0≤v→v<N→τ (ρ v)=(σ v).map (iQ ρ)
section
variable {ρ:Int→Int} {N:Int} {σ τ:Sub}
end
end Go.AW
namespace Go.AW
open Go.Proofs.Tryz
def iR(n:Int):Prop:= -999≤n∧n≤999
theorem aNB(s:ByteArray)(a b:Int)(ha:iR a)(hb:iR b):iR (qH s a b).1:=by
 unfold qH iR
 split
 · exact PQ _
 split
 · exact PQ _
 split
 · exact PQ _
 split
 · simp
 rename_i h0
 split
 · exact aFO a b ha hb h0
 · exact tdiv_le a b ha
theorem aOG{f:Int→Int→Int×Int}{x y:Int×Int}(h:iR (f x.1 y.1).1):iR (both f x y).1:=by
 unfold both iR
 split
 · simp
 split
 · simp
 · exact h
theorem Tm.wL{N:Int}:∀t:Tm,dD N t→iR t.ev.1:=by
 intro t
 induction t using Tm.ind with
 | h k n s ts ih=>
  intro h
  obtain⟨h1,h2⟩:=h.all
  rw[Tm.IP]
  split
  · rename_i hk;exact h1 hk
  split
  · simp [iR]
  split
  · match ts,h2,ih with
    | [],_,_=>simp [two,iR]
    | [x],_,_=>simp [two,iR]
    | [x,y],h2,ih=>exact aOG (aNB _ _ _ (ih x (by simp) (h2 x (by simp))) (ih y (by simp) (h2 y (by simp))))
    | x::y::z::l,_,_=>simp [two,iR]
  · simp [iR]
theorem Q3{ts:List Tm}(h:(ts.length:Int)=2):∃x y,ts= [x,y]:=by
 match ts,h with
 | [x,y],_=>exact⟨x,y,rfl⟩
 | [],h=>simp at h
 | [x],h=>simp at h
 | x::y::z::l,h=>simp at h;omega
abbrev vU:=zi aS (zi bV (zi cH (zi cB (zi cC rD))))
theorem aO8{N:Int}:∀(t:Tm) (st:aA),dD N t→aD prog 338 [t.av] st (fun r st'=>r=.tup [.int .i64 t.ev.1,.int .i64 t.ev.2]∧st'=st)
 | .mk k n s ts,st,hok=>by
  obtain⟨h1,h2⟩:=hok.all
  have IH:=fun(x:Tm) (hx:x∈ts) st=>aO8 x st (h2 x hx)
  rw[Tm.IP]
  simp only[bU]
  refine wF [1000000] 1 func338 ntmps338 rfl rfl ?_
  intro _
  simp only[aB,seval,vU]
  refine aQ (fun hk=>?_) (fun hk=>?_)
  · simp only[aB,seval,vU]
    simp only[bA] at hk
    simp [hk]
  simp only[dC] at hk
  rw[aK hk]
  simp only[aB,seval,vU]
  refine aQ (fun hk1=>?_) (fun hk1=>?_)
  · simp only[aB,seval]
    simp only[bA] at hk1
    simp [hk1]
  simp only[dC] at hk1
  rw[aK hk1]
  simp only[aE,aB,seval,vU]
  have hty:∀s0:aA,ts.length≠2∨iM oZ s=false→(if iM oZ s=true then two (qH s) (ts.map Tm.ev) else(0,3))=((0:Int),(3:Int)):=fun _ h=>by
   split
   · rename_i h3
     rcases h with h | h
     · match ts,h with
       | [],_=>rfl
       | [x],_=>rfl
       | [x,y],h=>simp at h
       | x::y::z::l,_=>rfl
     · rw[h] at h3;cases h3
   · rfl
  refine cK (fun h=>?_) (fun h=>?_)
  case refine_2=>
   simp only[h,aB,seval]
   rw[hty st (.inl (by simp at h;omega))]
  simp only[h,aB,seval,vU]
  refine(TA oZ s _).to ?_
  simp only[aB,seval]
  refine aQ (fun h3=>?_) (fun h3=>?_)
  · simp only[aB,seval]
    rw[hty st (.inr (by simpa [iM] using h3))]
  have hin:iM oZ s=true:=by simpa [iM] using h3
  rw[aN hin]
  clear hty
  obtain⟨x,y,rfl⟩:=Q3 (by simpa using h)
  have gO:dT prog 56 (.slice [x.av,y.av]) (.int .i64 0)=some (.pptr x.av):=bS (av:=Tm.av) (l:=[x,y]) (i:=0) cF rfl (aP x)
  have kS:dT prog 56 (.slice [x.av,y.av]) (.int .i64 1)=some (.pptr y.av):=bS (av:=Tm.av) (l:=[x,y]) (i:=1) cF rfl (aP y)
  have hx:=Tm.wL x (h2 x (by simp))
  have hy:=Tm.wL y (h2 y (by simp))
  have IHx:=fun st=>IH x (by simp) st
  have IHy:=fun st=>IH y (by simp) st
  simp only[gO,bM,aP,aB,↓aU,seval,vU]
  refine(IHx _).to ?_
  simp only[two,both]
  generalize x.ev.1=a at *
  generalize x.ev.2=ca at *
  generalize y.ev.1=b at *
  generalize y.ev.2=cb at *
  simp only[aB,seval]
  refine aQ (fun h4=>?_) (fun h4=>?_)
  · simp only[aB,seval]
    have h4':ca≠0:=by simpa using h4
    rw[aN h4']
  have h4':ca=0:=by simpa using h4
  subst h4'
  rw[aK (by simp)]
  simp only[kS,bM,aP,aB,seval,vU]
  refine(IHy _).to ?_
  simp only[aB,seval]
  refine aQ (fun h5=>?_) (fun h5=>?_)
  · simp only[aB,seval]
    have h5':cb≠0:=by simpa using h5
    rw[aN h5']
  have h5':cb=0:=by simpa using h5
  subst h5'
  rw[aK (by simp)]
  unfold iR at hx hy
  have hmul: -998001≤a*b∧a*b≤998001:=by
   have h6:(a*b).natAbs≤998001:=by
    rw[Int.natAbs_mul]
    have:=Nat.mul_le_mul (show a.natAbs≤999 by omega) (show b.natAbs≤999 by omega)
    omega
   omega
  have hw1:=bC (n:=a+b)
  have hw2:=bC (n:=a - b)
  have hw3:=bC (n:=a*b)
  have hrg:∀(v:Int) (st':aA),aD prog 39 [.int .i64 v,.int .i64 (-999),.int .i64 999] st' (fun r s'=>r=.bool (decide (gS v=(v,0)))∧s'=st'):=fun v st'=>by
   refine(wI v (-999) 999 st').mono ?_
   rintro _ _ ⟨rfl,rfl⟩
   refine⟨?_,rfl⟩
   congr 1
   unfold gS
   split
   · rename_i h;simp [h.1,h.2]
   · rename_i h
     rw[show(decide (((0:Int),(5:Int))=(v,0)))=false from eM (by simp)]
     simp only[Bool.and_eq_false_iff,dC]
     omega
  have hrn:∀v,gS v≠(v,0)→gS v=(0,5):=fun v h=>by
   unfold gS at h ⊢
   split
   · rename_i h';rw[aN h'] at h;exact absurd rfl h
   · rfl
  unfold qH
  simp only[aB,seval,vU]
  refine aQ (fun h6=>?_) (fun h6=>?_)
  · simp only[hw1,aB,seval]
    rw[aN (by simpa using h6)]
    refine(hrg (a+b) _).to ?_
    simp only[aB,seval]
    refine aQ (fun h8=>?_) (fun h8=>?_)
    · simp only[aB,seval]
      rw[hrn _ (by simpa using h8)]
    · simp only[aB,seval]
      rw[show gS (a+b)=(a+b,0) by simpa using h8]
  rw[aK (by simpa using h6)]
  simp only[aB,seval]
  refine aQ (fun h7=>?_) (fun h7=>?_)
  · simp only[hw2,aB,seval]
    rw[aN (by simpa using h7)]
    refine(hrg (a - b) _).to ?_
    simp only[aB,seval]
    refine aQ (fun h8=>?_) (fun h8=>?_)
    · simp only[aB,seval]
      rw[hrn _ (by simpa using h8)]
    · simp only[aB,seval]
      rw[show gS (a - b)=(a - b,0) by simpa using h8]
  rw[aK (by simpa using h7)]
  simp only[aB,seval]
  refine aQ (fun h9=>?_) (fun h9=>?_)
  · simp only[hw3,aB,seval]
    rw[aN (by simpa using h9)]
    refine(hrg (a*b) _).to ?_
    simp only[aB,seval]
    refine aQ (fun h8=>?_) (fun h8=>?_)
    · simp only[aB,seval]
      rw[hrn _ (by simpa using h8)]
    · simp only[aB,seval]
      rw[show gS (a*b)=(a*b,0) by simpa using h8]
  rw[aK (by simpa using h9)]
  simp only[aB,seval]
  refine aQ (fun h0=>?_) (fun h0=>?_)
  · simp only[aB,seval]
    rw[aN (by simpa using h0)]
  have h0':b≠0:=by simpa using h0
  rw[aK h0']
  have hq:=tdiv_le a b hx
  have hr:=KQ a b h0'
  have hf:=aFO a b hx hy h0'
  have hfe:=aWA a b h0'
  have hw4:=bC (n:=a.tdiv b)
  have hw5:=bC (n:=a.tmod b+b)
  have aXB:gS (a.tdiv b)=(a.tdiv b,0):=by unfold gS;rw[aN hq]
  have aXC:gS (pG a b)=(pG a b,0):=by unfold gS;rw[aN hf]
  simp only[hw4,h0',aB,seval,vU]
  refine aQ (fun h10=>?_) (fun h10=>?_)
  · simp only[hw5,h0',hfe,aB,seval]
    rw[aN (by simpa using h10)]
    refine(hrg (pG a b) _).to ?_
    have hd:decide (gS (pG a b)=(pG a b,0))=true:=by rw[aXC];simp
    simp only[hd,aB,seval]
  · simp only[aB,seval]
    rw[aK (by simpa using h10)]
    refine(hrg (a.tdiv b) _).to ?_
    have hd:decide (gS (a.tdiv b)=(a.tdiv b,0))=true:=by rw[aXB];simp
    simp only[hd,aB,seval]
termination_by t=>SizeOf.sizeOf t
decreasing_by have:=List.sizeOf_lt_of_mem hx;simp only[Tm.mk.sizeOf_spec];omega
theorem M2(n:Int)(st:aA):aD prog 356 [.int .i64 n] st (fun r st'=>r=.tup [.int .i64 (gS n).1,.int .i64 (gS n).2]∧st'=st):=by
 refine wF [1000000] 1 func356 ntmps356 rfl rfl ?_
 intro _
 simp only[aB,seval]
 refine cK (fun h=>?_) (fun h=>?_)
 · simp only[h,aB,seval]
   have h1:¬n< -999:=by simpa using h
   refine aQ (fun h2=>?_) (fun h2=>?_)
   · simp only[aB,seval]
     have h2':999<n:=by simpa using h2
     unfold gS
     rw[aK (by omega)]
   · simp only[aB,seval]
     have h2':¬ 999<n:=by simpa using h2
     unfold gS
     rw[aN (by omega)]
 · simp only[h,aB,seval]
   have h1:n< -999:=by simpa using h
   unfold gS
   rw[aK (by omega)]
abbrev a11:=zi aS bV
theorem aQ8(a b:Int)(ha:iR a)(hb:iR b)(h0:b≠0)(st:aA):aD prog 357 [.int .i64 a,.int .i64 b] st (fun r st'=>r=.int .i64 (pG a b)∧st'=st):=by
 have hl:=KQ a b h0
 unfold iR at ha hb
 have hw:=bC (n:=a.tmod b+b)
 refine wF [1000000] 2 func357 ntmps357 rfl rfl ?_
 intro _
 simp only[h0,aB,seval]
 have hf:pG a b=if a.tmod b≠0∧decide (a.tmod b<0)≠decide (b<0) then a.tmod b+b else a.tmod b:=rfl
 rw[hf]
 clear hf
 generalize hm:a.tmod b=m at *
 refine cK (fun h=>?_) (fun h=>?_)
 · have h':m≠0:=by simpa using h
   simp only[h,aB,seval,a11]
   refine aQ (fun h2=>?_) (fun h2=>?_)
   · simp only[hw,aB,seval]
     rw[aN ⟨h',by simpa using h2⟩]
   · simp only[aB,seval]
     rw[aK (by intro h3;exact h3.2 (by simpa using h2))]
 · have h':m=0:=by simpa using h
   simp only[h,aB,seval]
   rw[aK (by intro h3;exact h3.1 h')]
theorem aQ6(a b:Int)(ha:iR a)(hb:iR b)(h0:b≠0)(st:aA):aD prog 358 [.int .i64 a,.int .i64 b] st (fun r st'=>r=.int .i64 (a.tdiv b)∧st'=st):=by
 have hl:=tdiv_le a b ha
 have hw:=bC (n:=a.tdiv b)
 refine wF [1000000] 2 func358 ntmps358 rfl rfl ?_
 intro _
 simp only[h0,hw,aB,seval]
theorem T6(s:ByteArray)(a b:Int)(hx:iR a)(hy:iR b)(st:aA):aD prog 309 [.str s,.int .i64 a,.int .i64 b] st (fun r st'=>r=.tup [.int .i64 (qH s a b).1,.int .i64 (qH s a b).2]∧st'=st):=by
 have hMod:=fun h0=>aQ8 a b hx hy h0
 have hDiv:=fun h0=>aQ6 a b hx hy h0
 unfold iR at hx hy
 have hmul: -998001≤a*b∧a*b≤998001:=by
  have h6:(a*b).natAbs≤998001:=by
   rw[Int.natAbs_mul]
   have:=Nat.mul_le_mul (show a.natAbs≤999 by omega) (show b.natAbs≤999 by omega)
   omega
  omega
 have hw1:=bC (n:=a+b)
 have hw2:=bC (n:=a - b)
 have hw3:=bC (n:=a*b)
 unfold qH
 refine wF [1000000] 3 func309 ntmps309 rfl rfl ?_
 intro _
 simp only[aB,seval]
 refine aQ (fun h6=>?_) (fun h6=>?_)
 · simp only[hw1,aB,seval]
   rw[aN (by simpa using h6)]
   refine(M2 _ _).to ?_
   simp only[aB,seval]
 rw[aK (by simpa using h6)]
 simp only[aB,seval]
 refine aQ (fun h7=>?_) (fun h7=>?_)
 · simp only[hw2,aB,seval]
   rw[aN (by simpa using h7)]
   refine(M2 _ _).to ?_
   simp only[aB,seval]
 rw[aK (by simpa using h7)]
 simp only[aB,seval]
 refine aQ (fun h9=>?_) (fun h9=>?_)
 · simp only[hw3,aB,seval]
   rw[aN (by simpa using h9)]
   refine(M2 _ _).to ?_
   simp only[aB,seval]
 rw[aK (by simpa using h9)]
 simp only[aB,seval]
 refine aQ (fun h0=>?_) (fun h0=>?_)
 · simp only[aB,seval]
   rw[aN (by simpa using h0)]
 have h0':b≠0:=by simpa using h0
 rw[aK h0']
 simp only[aB,seval]
 refine aQ (fun h10=>?_) (fun h10=>?_)
 · simp only[aB,seval]
   rw[aN (by simpa using h10)]
   refine(hMod h0' _).to ?_
   simp only[aB,seval]
 · simp only[aB,seval]
   rw[aK (by simpa using h10)]
   refine(hDiv h0' _).to ?_
   simp only[aB,seval]
theorem HU(s:ByteArray):iM oZ s=decide (cV s=1∨cV s=2):=by
 unfold iM oZ cV
 simp only[t9,List.any_nil,DV]
 by_cases h1:s=⟨#[43]⟩
 · subst h1;decide
 by_cases h2:s=⟨#[45]⟩
 · subst h2;decide
 by_cases h3:s=⟨#[42]⟩
 · subst h3;decide
 by_cases h4:s=⟨#[47,47]⟩
 · subst h4;decide
 by_cases h5:s=⟨#[109,111,100]⟩
 · subst h5;decide
 simp only[h1,h2,h3,h4,h5,bB,DV,yG]
 cases (decide (s=⟨#[61]⟩)||decide (s=⟨#[92,61]⟩)||decide (s=⟨#[61,61]⟩)||decide (s=⟨#[60]⟩)||decide (s=⟨#[62]⟩)||decide (s=⟨#[61,60]⟩)||decide (s=⟨#[62,61]⟩)||decide (s=⟨#[61,58,61]⟩)||decide (s=⟨#[105,115]⟩))<;>rfl
abbrev q9:=zi aS (zi cH (zi cB cC))
theorem H3{N:Int}:∀(t:Tm) (st:aA),dD N t→aD prog 255 [t.av] st (fun r st'=>r=.tup [.int .i64 t.ev.1,.int .i64 t.ev.2]∧st'=st)
 | .mk k n s ts,st,hok=>by
  obtain⟨h1,h2⟩:=hok.all
  have IH:=fun(x:Tm) (hx:x∈ts) st=>H3 x st (h2 x hx)
  rw[Tm.IP]
  simp only[bU]
  refine wF [1000000] 1 func255 ntmps255 rfl rfl ?_
  intro _
  simp only[aB,seval,q9]
  refine aQ (fun hk1=>?_) (fun hk1=>?_)
  · simp only[aB,seval]
    simp only[bA] at hk1
    rw[aK (by omega),aN hk1]
  simp only[dC] at hk1
  rw[aK hk1]
  simp only[aB,seval]
  refine aQ (fun hk=>?_) (fun hk=>?_)
  · simp only[aB,seval,q9]
    simp only[bA] at hk
    simp [hk]
  simp only[dC] at hk
  rw[aK hk]
  simp only[aB,seval,q9]
  refine(uU s _).to ?_
  simp only[aE,aB,seval,q9]
  have hty:∀s0:aA,ts.length≠2∨iM oZ s=false→(if iM oZ s=true then two (qH s) (ts.map Tm.ev) else(0,3))=((0:Int),(3:Int)):=fun _ h=>by
   split
   · rename_i h3
     rcases h with h | h
     · match ts,h with
       | [],_=>rfl
       | [x],_=>rfl
       | [x,y],h=>simp at h
       | x::y::z::l,_=>rfl
     · rw[h] at h3;cases h3
   · rfl
  refine cK (fun h=>?_) (fun h=>?_)
  case refine_2=>
   simp only[h,aB,seval]
   rw[hty st (.inl (by simp at h;omega))]
  simp only[h,aB,seval]
  have aGK:iM oZ s=false→cV s≠1∧cV s≠2:=fun h=>by
   rw[HU] at h
   have:=of_decide_eq_false h
   omega
  refine cK (fun h3=>?_) (fun h3=>?_)
  · simp only[h3,aB,seval]
    have h3':cV s≠1:=by simp at h3;omega
    refine aQ (fun h6=>?_) (fun h6=>?_)
    · have h6':cV s≠2:=by simp at h6;omega
      simp only[aB,seval]
      rw[hty st (.inr (by rw[HU];simp [h3',h6']))]
    · have h6':cV s=2:=by simp at h6;omega
      have hin:iM oZ s=true:=by rw[HU];simp [h6']
      simp only[aB,seval,q9]
      rw[aN hin]
      clear hty aGK
      obtain⟨x,y,rfl⟩:=Q3 (by simpa using h)
      have gO:dT prog 56 (.slice [x.av,y.av]) (.int .i64 0)=some (.pptr x.av):=bS (av:=Tm.av) (l:=[x,y]) (i:=0) cF rfl (aP x)
      have kS:dT prog 56 (.slice [x.av,y.av]) (.int .i64 1)=some (.pptr y.av):=bS (av:=Tm.av) (l:=[x,y]) (i:=1) cF rfl (aP y)
      have hx:=Tm.wL x (h2 x (by simp))
      have hy:=Tm.wL y (h2 y (by simp))
      have IHx:=fun st=>IH x (by simp) st
      have IHy:=fun st=>IH y (by simp) st
      simp only[bL,bE,two,both]
      simp only[gO,bM,aP,aB,↓aU,seval,q9]
      refine(IHx _).to ?_
      generalize x.ev.1=a at *
      generalize x.ev.2=ca at *
      generalize y.ev.1=b at *
      generalize y.ev.2=cb at *
      simp only[aB,seval]
      refine aQ (fun h4=>?_) (fun h4=>?_)
      · simp only[aB,seval]
        have h4':ca≠0:=by simpa using h4
        rw[aN h4']
      have h4':ca=0:=by simpa using h4
      subst h4'
      rw[aK (by simp)]
      simp only[kS,bM,aP,aB,seval,q9]
      refine(IHy _).to ?_
      simp only[aB,seval]
      refine aQ (fun h5=>?_) (fun h5=>?_)
      · simp only[aB,seval]
        have h5':cb≠0:=by simpa using h5
        rw[aN h5']
      have h5':cb=0:=by simpa using h5
      subst h5'
      rw[aK (by simp)]
      simp only[aB,seval,q9]
      refine(T6 s a b hx hy _).to ?_
      simp only[aB,seval]
  · have h3':cV s=1:=by simp at h3;omega
    have hin:iM oZ s=true:=by rw[HU];simp [h3']
    simp only[h3,aB,seval,q9]
    rw[aN hin]
    clear hty aGK
    obtain⟨x,y,rfl⟩:=Q3 (by simpa using h)
    have gO:dT prog 56 (.slice [x.av,y.av]) (.int .i64 0)=some (.pptr x.av):=bS (av:=Tm.av) (l:=[x,y]) (i:=0) cF rfl (aP x)
    have kS:dT prog 56 (.slice [x.av,y.av]) (.int .i64 1)=some (.pptr y.av):=bS (av:=Tm.av) (l:=[x,y]) (i:=1) cF rfl (aP y)
    have hx:=Tm.wL x (h2 x (by simp))
    have hy:=Tm.wL y (h2 y (by simp))
    have IHx:=fun st=>IH x (by simp) st
    have IHy:=fun st=>IH y (by simp) st
    simp only[bL,bE,two,both]
    simp only[gO,bM,aP,aB,↓aU,seval,q9]
    refine(IHx _).to ?_
    generalize x.ev.1=a at *
    generalize x.ev.2=ca at *
    generalize y.ev.1=b at *
    generalize y.ev.2=cb at *
    simp only[aB,seval]
    refine aQ (fun h4=>?_) (fun h4=>?_)
    · simp only[aB,seval]
      have h4':ca≠0:=by simpa using h4
      rw[aN h4']
    have h4':ca=0:=by simpa using h4
    subst h4'
    rw[aK (by simp)]
    simp only[kS,bM,aP,aB,seval,q9]
    refine(IHy _).to ?_
    simp only[aB,seval]
    refine aQ (fun h5=>?_) (fun h5=>?_)
    · simp only[aB,seval]
      have h5':cb≠0:=by simpa using h5
      rw[aN h5']
    have h5':cb=0:=by simpa using h5
    subst h5'
    rw[aK (by simp)]
    simp only[aB,seval,q9]
    refine(T6 s a b hx hy _).to ?_
    simp only[aB,seval]
termination_by t=>SizeOf.sizeOf t
decreasing_by have:=List.sizeOf_lt_of_mem hx;simp only[Tm.mk.sizeOf_spec];omega
theorem SU{A C B:List AV}{n:Nat}(hA:A.length=n)(hC:C.length=4) :
 (n+4≤(A++C++B).length)∧List.take 4 (List.drop n (A++C++B))=C∧(A++C++B)[n+0]?=C[0]?:=by
 refine⟨by simp only[dO];omega,?_,(aY9 (A:=A) (B:=B) hA).2.2.1 C 0 (by omega)⟩
 rw[←hA,p9,List.drop_left,←hC,List.take_left]
end Go.AW
namespace Go.AW
def tM(n:Int):Tm:=.mk 2 n ⟨#[]⟩ []
theorem aYD{n:Int}(h:iR n):(tM n).valid=true:=by
 have ho:(tM n).kU=true:=by
  unfold tM
  rw[Tm.y9]
  simp [dY,h.1,h.2]
 rw[Tm.aLG ho]
 simp [tM,Tm.gR,bH,Tm.yL]
def lN(b:Bool):Int:=if b=true then 0 else 1
def NC(s:ByteArray)(a b:Int):Bool:=
 if s=⟨#[60]⟩ then decide (a<b) else if s=⟨#[62]⟩ then decide (b<a) else if s=⟨#[61,60]⟩ then decide (a≤b) else if s=⟨#[62,61]⟩ then decide (b≤a) else decide (a=b)
def J8(s:ByteArray)(x:Tm):Bool:=
 if s=⟨#[118,97,114]⟩ then decide (x.k=1) else if s=⟨#[110,111,110,118,97,114]⟩ then !decide (x.k=1) else if s=⟨#[97,116,111,109]⟩ then decide (x.k=3)&&decide ((x.ts.length:Int)=0) else decide (x.k=2)
def ID(s:ByteArray)(x y:Tm):Int:=(both (fun a b=>(0,lN (NC s a b))) x.ev y.ev).2
def sX(x y:Tm):Option Tm:=if 1≤x.n∧x.n≤y.ts.length then y.ts[(x.n - 1).toNat]? else none
theorem SR{x y u:Tm}(h:sX x y=some u):u∈y.ts:=by
 unfold sX at h
 split at h
 · exact cQ h
 · cases h
theorem aOC{s:ByteArray}{n:Nat}(h:isBuiltin s (n:Int)=true) :
 (n=2∧(iM BQ s=true∨s=⟨#[61]⟩∨s=⟨#[92,61]⟩∨s=⟨#[61,61]⟩∨s=⟨#[105,115]⟩))∨(n=0∧(s=⟨#[116,114,117,101]⟩∨s=⟨#[102,97,105,108]⟩)) ∨
 (n=1∧(s=⟨#[118,97,114]⟩∨s=⟨#[110,111,110,118,97,114]⟩∨s=⟨#[97,116,111,109]⟩∨s=⟨#[105,110,116]⟩))∨(n=3∧s=⟨#[97,114,103]⟩):=by
 unfold isBuiltin at h
 simp only[cond_eq_ite] at h
 split at h
 · rename_i h1
   left
   refine⟨by simp at h;omega,?_⟩
   simp only[kZ,bA] at h1
   simp only[iM,BQ,t9,List.any_nil,kZ,bA,iF,dP]
   rcases h1 with (((((((h1 | h1) | h1) | h1) | h1) | h1) | h1) | h1) | h1<;>simp [h1]
 split at h
 · rename_i h1
   right;left
   refine⟨by simp at h;omega,?_⟩
   simpa using h1
 split at h
 · rename_i h1
   right;right;left
   refine⟨by simp at h;omega,?_⟩
   simp only[kZ,bA] at h1
   rcases h1 with ((h1 | h1) | h1) | h1<;>simp [h1]
 split at h
 · rename_i h1
   right;right;right
   exact⟨by simp at h;omega,by simpa using h1⟩
 · cases h

end Go.AW
namespace Go.AW
open Go.Proofs.Tryz




end Go.AW
namespace Go.AW
theorem uP{P:Program}{N:Nat}{x y:Code}{Q:Exit→AF→aA→Prop}{φ:AF}{st:aA}(e:eG P N x (DJ (eG P N y Q) Q) φ st):eG P N (.seq x y) Q φ st:=fun a w R=>by
 refine wp_seq (wp_mono (e a w R) ?_)
 rintro ex a' w' ⟨φ',st',R',T,s,q⟩
 cases ex with
 | normal=>exact wp_mono (q a' w' R') fun _ _ _ h=>h.mono T s
 | _=>exact⟨φ',st',R',T,s,q⟩
theorem MB{P:Program}{g:FuncId}{fn:Func}{c:Code}{args:List AV}{st:aA}{N:Nat}{rs:List ResultVar}{K:AV→aA→Prop}(hf:P.funcs[g]?=some fn)(hN:fn.ntmps=N)(hr:fn.results=rs.toArray)(hb:fn.body=some c)(hn:(fn.name == "runtime.NumGoroutine")=false)
 (pK:args.length≤N) (e:dS args→eG P N c (CU P rs.toArray K) (qI 0 args) st):aD P g args st K:=by
 subst hN
 rw[←hr] at e
 refine⟨⟨fn,hf,by simp [hb],hn⟩,fun w vs S V=>?_⟩
 have e:=e V.fits
 have hl:=V.length
 have R:Rel fn.ntmps { tmps:=vs.toArray++Array.replicate (fn.ntmps - vs.toArray.size) undef,defers:=[] } w (qI 0 args) st:=by
  refine⟨by simp;omega,rfl,MI args vs 0 V fun j v hj=>?_,S⟩
  obtain⟨hjl,hjv⟩:=fM.1 hj
  simp [Array.getElem?_append,hjl,hjv]
 refine calls_of_wp hf hb (wp_mono (e _ w R) ?_)
 rintro ex a' w' ⟨φ',st',R',T,s,q⟩
 have fin:(match nT P φ' st' fn.results.toList with | some xs=>DO K st' xs | none=>False)→a'.defers= []∧∃v,(results fn a'.tmps).run P w'=.ok v w' ∧
  (∃v2 r st2,(Ending.returned v)=.returned v2∧aM w'.heap st2 r v2∧cA w'.heap st2∧bQ w.heap st w'.heap st2∧eD w w'∧K r st2):=by
  intro q
  split at q
  · rename_i xs hx
    obtain⟨v,r,r1,r2,r3⟩:=aIM R'.frame R'.store hx q
    exact⟨R'.defers,v,r1,v,r,st',rfl,r2,R'.store,T,s,r3⟩
  · cases q
 cases ex with
 | normal=>exact fin q
 | ret=>exact fin q
 | _=>exact q.elim
theorem aM.a1J{h:a7}{st:aA}{es:List AV}{v:Value}(y:aM h st (.slice es) v):∃a n c,v=.slice a n c∧(es≠[]→a.isNone=false):=by
 obtain⟨y0,y1⟩:=y
 have hv:v.cells.toList= [v]:=by cases v<;>first | rfl | (simp [AV.isAgg,jY] at y0)
 unfold VC at y1
 rw[hv] at y1
 rcases y1 with ⟨⟨p,e⟩,rfl⟩ | ⟨b,off,cap,e,_⟩
 · exact⟨p,0,0,by simpa using e,fun h=>absurd rfl h⟩
 · exact⟨_,_,_,by simpa using e,fun _=>rfl⟩
theorem ML{P:Program}{N:Nat}{id i d d':Nat}{t e ty ty' tx:TypeId}{pos pos':String}{aft qG:Array Edge}{es:List AV}{Q:Exit→AF→aA→Prop}{φ:AF}{st:aA}(ht:P.underlying t=some (.slice e))
 (hd:d<N) (hd':d'<N) (hx:φ i=.slice es) (k:∀c:Bool,(es≠[]→c=false)→Q .normal ((φ.aC d (.slice es)).aC d' (.bool c)) st) :
 eG P N (.region id #[⟨some d,.move (.tmp i),ty,pos,aft,none⟩,⟨some d',.binOp .eql t (.tmp d) (.const (.slice none 0 0)) tx,ty',pos',qG,none⟩] false) Q φ st:=fun a w R=>by
 refine wp_region_list ?_
 have hN:∀(j q:Nat),((#[⟨some d,.move (.tmp i),ty,pos,aft,none⟩,⟨some d',.binOp .eql t (.tmp d) (.const (.slice none 0 0)) tx,ty',pos',qG,none⟩]:Array Oper)[j]?).bind (·.dst)=some q→q<N:=by
  intro j q e
  match j with
  | 0=>simp at e;subst e;exact hd
  | 1=>simp at e;subst e;exact hd'
  | j+2=>simp at e
 refine qD (mt:=[]) (K:=fun φ' st'=>φ'=φ.aC d (.slice es)∧st'=st) hN (by simp [m8,hd]) R (by
  show φ.put (some d) (φ i)=_∧_
  rw[hx]
  exact⟨rfl,rfl⟩) ?_
 rintro a1 w1 _ _ R1 T1 s1 ⟨rfl,rfl⟩
 have y:=R1.frame d
 rw[AF.aH] at y
 obtain⟨p,n,c,hv,hp⟩:=y.a1J
 have hv':a1.eval (.tmp d)=.slice p n c:=hv
 unfold wpList
 rw[aN (by rfl)]
 refine .inl ?_
 have kT:(execOp a1.eval ⟨some d',.binOp .eql t (.tmp d) (.const (.slice none 0 0)) tx,ty',pos',qG,none⟩).run P w1=.ok (.value (.bool p.isNone)) w1:=by
  simp only[execOp,hv']
  rw[show a1.eval (.const (.slice none 0 0))=.slice none 0 0 from rfl]
  simp [eqGuard_at_slice,Lib.run_eql_slice_nil w1 t e p n c 0 0 ht]
 simp only[Oper.wp,kT,Oper.upon]
 unfold wpList
 exact⟨_,_,R1.put (o:=⟨some d',.binOp .eql t (.tmp d) (.const (.slice none 0 0)) tx,ty',pos',qG,none⟩) (by simp [m8,hd']) (bQ.refl _ _) R1.store aM.jQ,T1,s1,k _ hp⟩
def cW:AV→List Nat
 | .mslice b _ _ _=>[b]
 | _=>[]
def d3(st:aA)(w:Nat)(q:AV)(l:List AV):Prop:=
 (q=.fslice []∧l= [])∨∃b cs,q=.mslice b 0 l.length w∧st b=Option.some (.cells cs)∧cs.take (l.length*w)=l.flatMap AV.cells∧l.length*w≤cs.length
theorem d3.shape{st:aA}{w:Nat}{q:AV}{l:List AV}(h:d3 st w q l):q.isAgg=false∧q.width=1∧q.bR=false∧q.cells= [q]∧q.storable=true:=by
 rcases h with ⟨rfl,_⟩ | ⟨b',cs,rfl,_⟩<;>exact⟨rfl,rfl,rfl,rfl,rfl⟩
theorem d3.aY{st st':aA}{w:Nat}{q:AV}{l:List AV}(h:d3 st w q l)(hk:∀b∈cW q,st' b=st b):d3 st' w q l:=by
 rcases h with h | ⟨b,cs,rfl,hb,h2⟩
 · exact .inl h
 · exact .inr ⟨b,cs,rfl,by rw[hk b (by simp [cW])];exact hb,h2⟩
theorem d3.some{st:aA}{w:Nat}{q:AV}{l:List AV}(h:d3 st w q l):∀b∈cW q,∃cs,st b=Option.some (.cells cs):=by
 intro b hb
 rcases h with ⟨rfl,_⟩ | ⟨b',cs,rfl,hb',_⟩
 · simp [cW] at hb
 · simp only[cW,cL,c8,dP] at hb;subst hb;exact⟨cs,hb'⟩
theorem d3.len{P:Program}{t e:TypeId}{st:aA}{w:Nat}{q:AV}{l:List AV}(h:d3 st w q l)(hu:P.underlying t=Option.some (.slice e)):oW P t q=Option.some (.int .i64 (l.length:Int)):=by
 rcases h with ⟨rfl,rfl⟩ | ⟨b,cs,rfl,_⟩<;>simp only[oW,hu,a8]
theorem d3.rT{P:Program}{t:TypeId}{ag:Bool}{bytes w:Nat}{zs:List AV}{st:aA}{q:AV}{l xs:List AV}{x:AV}{K:AV→aA→Prop}(hI:eI P t=Option.some (ag,w))(hB:eB P t=Option.some bytes)(hZ:eZ P t=Option.some zs)(hz:zs.length=w)(hb8:bytes≤4096)
 (h:d3 st w q l) (hxe:AR x=Option.some xs) (eU:uO w xs) (hl:l.length+xs.length≤1073741825)
 (hK:∀q' st',d3 st' w q' (l++xs)→(∀y,y∉cW q→y∉cW q'→st' y=st y)→(∀y∈cW q',y∈cW q∨st y=none)→K q' st'):iT P t st q x K:=by
 have OG:(l.length+xs.length)*bytes≤140737488355328:=by
  have:=Nat.mul_le_mul hl hb8
  omega
 have hxc:(xs.flatMap AV.cells).length=xs.length*w:=lQ fun e he=>(eU e he).1
 unfold iT
 simp only[hI,hB,hZ,hxe]
 refine⟨hz,eU,?_⟩
 rcases h with ⟨rfl,rfl⟩ | ⟨b,cs,rfl,hb,hcs,hcl⟩
 · simp only[a8,j7] at OG hl ⊢
   refine⟨OG,by omega,by simp,fun h=>?_,fun _ b hb=>?_⟩
   · subst h
     exact hK _ _ (.inl ⟨rfl,rfl⟩) (fun _ _ _=>rfl) (fun y hy=>.inl hy)
   refine hK _ _ (.inr ⟨b,xs.flatMap AV.cells,rfl,by rw[aA.aH];simp,?_,?_⟩) (fun y _ hy=>?_) (fun y hy=>?_)
   · rw[dL,←hxc,d6]
   · rw[dL,hxc];exact cX _
   · simp only[cW,cL,c8,dP] at hy
     rw[aA.aJ _ _ hy]
   · simp only[cW,cL,c8,dP] at hy
     subst hy;exact .inr hb
 · simp only[hb]
   have wQ:cs.take (l.length*w)++xs.flatMap AV.cells=(l++xs).flatMap AV.cells:=by rw[hcs,uB]
   have hlen:((l++xs).flatMap AV.cells).length=(l++xs).length*w:=by
    rw[←wQ,dO,dK,oS hcl,hxc,dO,v9]
   refine⟨trivial,OG,by omega,hcl,?_,fun b' hb'=>?_⟩
   · rw[wQ]
     refine hK _ _ (.inr ⟨b,_,by simp,aA.aH _ _ _,by rw[oR (by rw[hlen];exact cX _)],by rw[hlen];exact cX _⟩) (fun y hy _=>?_) (fun y hy=>.inl hy)
     simp only[cW,cL,c8,dP] at hy
     rw[aA.aJ _ _ hy]
   · rw[wQ]
     refine hK _ _ (.inr ⟨b',_,by simp,aA.aH _ _ _,by rw[oR (by rw[hlen];exact cX _)],by rw[hlen];exact cX _⟩) (fun y hy hy'=>?_) (fun y hy=>?_)
     · simp only[cW,cL,c8,dP] at hy hy'
       rw[aA.aJ _ _ hy']
       simp [aA.erase,hy]
     · simp only[cW,cL,c8,dP] at hy
       subst hy;exact .inr hb'
theorem d3.append{P:Program}{t:TypeId}{ag:Bool}{bytes w:Nat}{zs:List AV}{st:aA}{q:AV}{l:List AV}{x:AV}{K:AV→aA→Prop}(hI:eI P t=Option.some (ag,w))(hB:eB P t=Option.some bytes)(hZ:eZ P t=Option.some zs)(hz:zs.length=w)(hb8:bytes≤4096)
 (h:d3 st w q l) (hx:x.width=w) (hxs:x.cells.all AV.storable=true) (hl:l.length≤1073741824)
 (hK:∀q' st',d3 st' w q' (l++ [x])→(∀y,y∉cW q→y∉cW q'→st' y=st y)→(∀y∈cW q',y∈cW q∨st y=none)→K q' st'):iT P t st q (.fslice [x]) K:=
 d3.rT hI hB hZ hz hb8 h rfl (gN hx hxs) (by simpa using hl) hK
theorem a09{h:a7}{st:aA}{b:Nat}{cs cs':List AV}(hb:st b=some (.cells cs)):bQ h st h (st.aC b (.cells cs')):=
 ⟨cX _,fun y _ e=>⟨rfl,by
  have hne:y≠b:=by rintro rfl;rw[hb] at e;cases e
  rw[aA.aJ _ _ hne];exact e⟩,fun _ c _ _ e=>⟨c,e,rfl⟩⟩
theorem M8{h:a7}{b:Nat}:∀ {vs:List Value} {off:Nat} (k:Nat),d8 h b off vs→d8 h b off (vs.take k)
 | _,_,0,_=>by simp [d8]
 | [],_,k+1,_=>by simp [d8]
 | v::vs,off,k+1,x=>⟨x.1,M8 k x.2⟩
theorem a08{h:a7}{st:aA}{b:Nat}{cs:List AV}(k:Nat)(hb:st b=some (.cells cs))(S:cA h st):cA h (st.aC b (.cells (cs.take k))):=fun y o e=>by
 have T:=a09 (h:=h) (cs':=cs.take k) hb
 by_cases hy:y=b
 · subst hy
   rw[aA.aH] at e
   cases e
   obtain⟨h1,c,t,e1,e2,vs,e3,e4⟩:=S y _ hb
   exact⟨h1,c,t,e1,lZ (by rw[dK];omega) e2,vs.take k,M8 k e3,aR.mono T _ _ (e4.take k)⟩
 · rw[aA.aJ _ _ hy] at e
   obtain⟨h1,h2⟩:=S y o e
   exact⟨h1,lA.mono T rfl h2⟩
theorem d3.seen{h:a7}{st s2:aA}{w:Nat}{q:AV}{l:List AV}{c:Value}(S:cA h st)(D:aL st s2)(hA:d3 st w q l)(hs2:∀b∈cW q,s2 b=none)(hj:∀e∈l,e.bR=false)(hw:∀e∈l,e.width=w)(x:VC h st q [c]):VC h s2 (.slice l) [c]:=by
 rcases hA with ⟨rfl,rfl⟩ | ⟨b,cs,rfl,hb,hcs,hcl⟩
 · unfold VC at x ⊢
   rcases x with x | ⟨b,off,e,l1,_⟩
   · exact .inl x
   · exact .inl ⟨⟨_,by simpa using e⟩,rfl⟩
 · have S1:=a08 (l.length*w) hb S
   rw[hcs] at S1
   obtain⟨f1,f2⟩:=frozen S1 (aA.aH _ _ _) hj
   have hs:s2 b=none:=hs2 b (by simp [cW])
   have D2:aL ((st.aC b (.cells (l.flatMap AV.cells))).erase b) s2:=fun x=>by
    unfold aA.erase
    by_cases hx:x=b
    · subst hx;rw[aN rfl];exact⟨fun _=>hs,fun o e=>by rw[hs] at e;cases e⟩
    · rw[aK hx,aA.aJ _ _ hx];exact D x
   have hE:=cS.mono (D2.step h) b rfl _ _ f2
   unfold VC at x
   obtain⟨cap,hv,l1,l2,_⟩:=x
   unfold VC
   exact .inr ⟨b,0,cap,hv,l1,l2,hs,f1,⟨w,hw⟩,hE⟩
theorem a1G{P:Program}{φ:AF}{t:TypeId}{ag:Bool}{w d b n k:Nat}(hI:eI P t=Option.some (ag,w))(h:φ d=.int .i64 (k:Int))(hk:k≤n):gJ P φ t (.mslice b 0 n w) none (some (.tmp d)) none=some (.mslice b 0 k w):=by
 have h1:dE φ (some (.tmp d)) n n=some k:=by
  unfold dE
  simp only[show φ.eval (.tmp d)=φ d from rfl,h]
  rw[aN (by omega)]
  simp
 have h2:dE φ none 0 k=some 0:=rfl
 unfold gJ nU
 rw[aK (by simp [qV])]
 simp only[hI,h1,h2]
 simp
theorem a1F{P:Program}{φ:AF}{t:TypeId}{ag:Bool}{w d:Nat}(hI:eI P t=Option.some (ag,w))(h:φ d=.int .i64 0):gJ P φ t (.fslice []) none (some (.tmp d)) none=some (.fslice []):=by
 have h1:dE φ (some (.tmp d)) 0 0=some 0:=by
  unfold dE
  simp only[show φ.eval (.tmp d)=φ d from rfl,h]
  simp
 have h2:dE φ none 0 0=some 0:=rfl
 unfold gJ
 rw[aN ⟨rfl,rfl⟩]
 simp only[hI,h1,h2]
end Go.AW
namespace Go.AW
open Go.Proofs.Tryz

theorem J7{α:Type}(f:α→Nat):∀l m:List α,bH f (l++m)=bH f l+bH f m
 | [],m=>by simp [bH]
 | x::l,m=>by simp only[fU,bH,J7 f l m];omega
abbrev Cv (t:Tm):Prop:=t.cv=true
theorem aWM{σ:Sub}{R:Int→Tm}{rk:Int→Nat}{B f:Nat}(G:Good σ R rk B){t:Tm}{k n:Int}{s:ByteArray}{ts:List Tm}(hw:fN σ f t (.mk k n s ts))(hc:Cv (.mk k n s ts)):t.aV R=.mk k n s (ts.map (Tm.aV R)):=by
 rw[←hw.aV G.wU]
 by_cases hk:k=1
 · rw[Tm.pR R hk,G.free (show σ n=none from hw.end hk)]
   obtain⟨h1,_⟩:=Tm.mZ.1 hc
   obtain⟨rfl,rfl⟩:=h1 hk
   rw[hk];try rfl
 · rw[Tm.mQ R hk]

abbrev a5B:=zi aS (zi cB (zi aKI (zi cC aKJ)))
abbrev QH:=zi aS (zi bV (zi cB cC))
theorem aOV(l l':List Tm)(g:FuncId)(st:aA)(hc:∀x∈l,∀(y:Tm) (st:aA),aD prog g [Tm.av x,Tm.av y] st (fun r st'=>r=.bool (Tm.same x y)∧st'=st)) :
 aD prog 376 [.slice (l.map Tm.av),.slice (l'.map Tm.av),.func g []] st (fun r st'=>r=.bool (qQ Tm.same l l')∧st'=st):=by
 refine wF [1000000] 3 func376 ntmps376 rfl rfl ?_
 simp only[dS,AV.fits,dU,aE]
 intro ⟨⟨hl,_⟩,⟨hl',_⟩⟩
 simp only[aE,aB,seval,QH]
 refine⟨fun h4=>?_,fun h4=>?_⟩
 · simp only[aB,seval]
   simp only[i9,dC] at h4
   rw[NV _ (show l.length≠l'.length by omega)]
 simp only[rJ,bA] at h4
 have h4':l.length=l'.length:=by omega
 simp only[aE,aB,seval,QH]
 refine dX (σ:=Unit) [1000000] [1,2,15,16] l (fun i _=>∀(j:Nat) (x y:Tm),j<i→l[j]?=some x→l'[j]?=some y→Tm.same x y=true) (fun i _=>[(17,.int .i64 i)]) (fun _ _=>st) (by decide +kernel) ⟨(),by intro j x y h;omega,aO.mk (by simp only[aB,↓aU,seval])⟩ (fun i x _ hx hlt bP hdr c9=>?_) (fun _ hge c9=>?_)
 case refine_2=>
  simp only[hge,aB,seval]
  rw[NT _ h4' (fun j x y h6 h7=>c9 j x y (by have:=(fM.1 h6).1;omega) h6 h7)]
 obtain⟨y,hy⟩:∃y,l'[i]?=some y:=⟨_,eL (h4'▸hlt)⟩
 have hw:=bC (n:=(i:Int)+1)
 simp only[bP,bM,aP,cR,cT,bS (av:=Tm.av) cF hx (aP x),bS (av:=Tm.av) cF hy (aP y),aB,↓aU,seval,QH]
 refine(hc x (cQ hx) y _).to ?_
 simp only[aB,seval]
 refine⟨fun h6=>?_,fun h6=>?_⟩
 · simp only[aB,seval]
   have h7:Tm.same x y=false:=by simpa using h6
   rw[NU _ i x y hx hy h7]
 have h7:Tm.same x y=true:=by simpa using h6
 simp only[aB,seval]
 refine⟨(),fun j u v hj hu hv=>?_,aO.mk (by simp only[hw,aB,seval])⟩
 rcases kK j i with h8 | h8
 · exact c9 j u v h8 hu hv
 · obtain rfl:j=i:=by omega
   rw[hx] at hu;rw[hy] at hv;cases hu;cases hv;exact h7
abbrev a5C:=zi aS (zi cH (zi cB (zi aKI (zi cC aKJ))))
abbrev KJ:=zi aS (zi bV (zi cH (zi cB cC)))
theorem aPN:∀(a b:Tm) (st:aA),aD prog 337 [a.av,b.av] st (fun r st'=>r=.bool (a.same b)∧st'=st)
 | .mk k n s ts,.mk k' n' s' ts',st=>by
  have hc:=aOV ts ts' 337 st fun x hx y st=>aPN x y st
  refine wF [] 2 func337 ntmps337 rfl rfl ?_
  intro _
  simp only[bU,Tm.aIU]
  simp only[aB,seval,KJ]
  refine cK (fun h1=>?_) (fun h1=>?_)
  case refine_2=>
   simp only[h1,aB,seval]
   simp at h1
   simp []
  simp only[h1,aB,seval,KJ]
  refine cK (fun h2=>?_) (fun h2=>?_)
  case refine_2=>
   simp only[h2,aB,seval]
   simp at h2
   simp []
  simp only[h2,aB,seval,KJ]
  refine cK (fun h3=>?_) (fun h3=>?_)
  case refine_2=>
   simp only[h3,aB,seval]
   simp at h3
   simp []
  simp only[h3,aB,seval,KJ]
  refine hc.to ?_
  simp only[aB,seval]
termination_by a=>SizeOf.sizeOf a
decreasing_by have:=List.sizeOf_lt_of_mem hx;simp only[Tm.mk.sizeOf_spec];omega
abbrev DG:=zi aS (zi bV (zi cH (zi cB cC)))
theorem UJ:∀(a b:Tm) (st:aA),aD prog 254 [a.av,b.av] st (fun r st'=>r=.bool (a.same b)∧st'=st)
 | .mk k n s ts,.mk k' n' s' ts',st=>by
  have hc:=fun(x:Tm) (hx:x∈ts) y st=>UJ x y st
  refine wF [] 2 func254 ntmps254 rfl rfl ?_
  simp only[bU,dS,AV.fits,dU,aE,Tm.aIU]
  intro ⟨⟨_,_,_,hl,_⟩,⟨_,_,_,hl',_⟩⟩
  simp only[aB,seval,DG]
  refine cK (fun h1=>?_) (fun h1=>?_)
  case refine_2=>
   simp only[h1,aB,seval]
   simp at h1
   simp [h1]
  simp only[h1,aB,seval,DG]
  refine cK (fun h2=>?_) (fun h2=>?_)
  case refine_2=>
   simp only[h2,aB,seval]
   simp at h2
   simp [h2]
  simp only[h2,aB,seval,DG]
  refine cK (fun h3=>?_) (fun h3=>?_)
  case refine_2=>
   simp only[h3,aB,seval]
   simp at h3
   simp [h3]
  simp only[h3,aE,aB,seval,DG]
  refine⟨fun h4=>?_,fun h4=>?_⟩
  · simp only[aB,seval]
    simp only[i9,dC] at h4
    rw[NV _ (show ts.length≠ts'.length by omega)]
    simp
  simp only[aB,seval]
  simp only[rJ,bA] at h1 h2 h3 h4
  have h4':ts.length=ts'.length:=by omega
  subst h1 h2 h3
  simp only[aZ,cZ]
  refine v4 (α:=Nat) [] (fun i=>i≤ts.length∧∀(j:Nat) (x y:Tm),j<i→ts[j]?=some x→ts'[j]?=some y→Tm.same x y=true)
   (fun i=>[(2,.pptr (.agg [.int .i64 k,.int .i64 n,.str s,.slice (ts.map Tm.av)])),(3,.pptr (.agg [.int .i64 k,.int .i64 n,.str s,.slice (ts'.map Tm.av)])),(5,.int .i64 i)]) (fun _=>st) (fun i=>ts.length - i) (by decide +kernel)
   ⟨0,⟨by omega,by intro j x y h;omega⟩,aO.mk (by simp only[aB,↓aU,seval])⟩ ?_
  intro i ⟨hi,c9⟩
  simp only[aE,aB,seval,DG]
  refine⟨fun h5=>?_,fun h5=>?_⟩
  case refine_2=>
   simp only[aB,seval]
   simp only[dC,lX] at h5
   rw[NT _ h4' (fun j x y h6 h7=>c9 j x y (by have:=(fM.1 h6).1;omega) h6 h7)]
  simp only[bA,lX] at h5
  obtain⟨x,hx⟩:∃x,ts[i]?=some x:=⟨_,eL h5⟩
  obtain⟨y,hy⟩:∃y,ts'[i]?=some y:=⟨_,eL (h4'▸h5)⟩
  simp only[aB,seval]
  refine aNJ mixed (by decide +kernel) (by decide +kernel) ?_
  simp only[bS (av:=Tm.av) cF hx (aP x),bS (av:=Tm.av) cF hy (aP y),bM,aP,aB,seval,DG]
  refine(hc x (cQ hx) y st).to ?_
  simp only[aB,seval]
  refine⟨fun h6=>?_,fun h6=>?_⟩
  · simp only[aB,seval]
    have h7:Tm.same x y=false:=by simpa using h6
    rw[NU _ i x y hx hy h7]
  have h7:Tm.same x y=true:=by simpa using h6
  simp only[aB,seval]
  refine⟨i+1,by omega,⟨by omega,fun j u v hj hu hv=>?_⟩,aO.mk ?_⟩
  · rcases kK j i with h8 | h8
    · exact c9 j u v h8 hu hv
    · obtain rfl:j=i:=by omega
      rw[hx] at hu;rw[hy] at hv;cases hu;cases hv;exact h7
  · have:=bC (n:=(i:Int)+1)
    simp only[this,aB,seval]
termination_by a=>SizeOf.sizeOf a
decreasing_by have:=List.sizeOf_lt_of_mem hx;simp only[Tm.mk.sizeOf_spec];omega

theorem aG2{ts:List Tm}(h:ts.length=0):ts= []:=oQ h
theorem aYH{ts:List Tm}(h:ts.length=1):∃x,ts= [x]:=by
 match ts,h with
 | [x],_=>exact⟨x,rfl⟩
theorem FL{ts:List Tm}(h:ts.length=2):∃x y,ts= [x,y]:=by
 match ts,h with
 | [x,y],_=>exact⟨x,y,rfl⟩
theorem aYI{ts:List Tm}(h:ts.length=3):∃x y z,ts= [x,y,z]:=by
 match ts,h with
 | [x,y,z],_=>exact⟨x,y,z,rfl⟩
theorem aLS{σ:Sub}{f:Nat}{t u:Tm}(h:fN σ f t u):wk σ u=u:=(fN.stop h.end).wk
end Go.AW
namespace Go.AW

end Go.AW
namespace Go.AW
open Go.Proofs.Tryz
theorem a1Y{α:Type}(f:α→Nat)(l:List α)(i:Nat):bH f (l.take i)≤bH f l:=by
 have:=J7 f (l.take i) (l.drop i)
 rw[DZ] at this
 omega
def Full(v:Tm)(room:Nat)(st:aA)(r:AV)(st':aA):Prop:=
 st'=st∧∃(x:Tm) (left:Int),r=.tup [x.av,.int .i64 left]∧-1≤left∧if v.nodes≤room then x=v∧left=(room:Int) - v.nodes else left<0
abbrev a49:=zi aS bV
theorem rU(b:Bool)(st:aA):aD prog 252 [.bool b] st (fun r st'=>r=.int .i64 (lN b)∧st'=st):=by
 refine wF [1000000] 1 func252 ntmps252 rfl rfl ?_
 intro _
 simp only[aB,seval]
 cases b
 · simp only[lN,aB,seval]
 · simp only[lN,aB,seval]
abbrev a5A:=zi bV cH
theorem aQ5(s:ByteArray)(st:aA):aD prog 258 [.str s] st (fun r st'=>r=.bool (iM BQ s)∧st'=st):=by
 have hin:iM BQ s=(decide (s=⟨#[60]⟩)||(decide (s=⟨#[62]⟩)||(decide (s=⟨#[61,60]⟩)||(decide (s=⟨#[62,61]⟩)||decide (s=⟨#[61,58,61]⟩))))):=by
  simp only[iM,BQ,t9,List.any_nil,DV]
 rw[hin]
 refine wF [1000000] 1 func258 ntmps258 rfl rfl ?_
 intro _
 simp only[aB,seval]
 refine cK (fun h1=>?_) (fun h1=>?_)
 case refine_2=>
  simp only[h1,aB,seval]
  simp at h1;simp [h1]
 simp only[h1,aB,seval]
 refine cK (fun h2=>?_) (fun h2=>?_)
 case refine_2=>
  simp only[h2,aB,seval]
  simp at h2;simp [h2]
 simp only[h2,aB,seval]
 refine cK (fun h3=>?_) (fun h3=>?_)
 case refine_2=>
  simp only[h3,aB,seval]
  simp at h3;simp [h3]
 simp only[h3,aB,seval]
 refine cK (fun h4=>?_) (fun h4=>?_)
 case refine_2=>
  simp only[h4,aB,seval]
  simp at h4;simp [h4]
 simp only[h4,aB,seval]
theorem aQ7(s:ByteArray)(a b:Int)(st:aA):aD prog 310 [.str s,.int .i64 a,.int .i64 b] st (fun r st'=>r=.bool (NC s a b)∧st'=st):=by
 unfold NC
 refine wF [1000000] 3 func310 ntmps310 rfl rfl ?_
 intro _
 simp only[aB,seval]
 refine aQ (fun h6=>?_) (fun h6=>?_)
 · simp only[aB,seval]
   rw[aN (by simpa using h6)]
 rw[aK (by simpa using h6)]
 simp only[aB,seval]
 refine aQ (fun h7=>?_) (fun h7=>?_)
 · simp only[aB,seval]
   rw[aN (by simpa using h7)]
 rw[aK (by simpa using h7)]
 simp only[aB,seval]
 refine aQ (fun h8=>?_) (fun h8=>?_)
 · simp only[aB,seval]
   rw[aN (by simpa using h8)]
 rw[aK (by simpa using h8)]
 simp only[aB,seval]
 refine aQ (fun h9=>?_) (fun h9=>?_)
 · simp only[aB,seval]
   rw[aN (by simpa using h9)]
 rw[aK (by simpa using h9)]
 simp only[aB,seval]
abbrev P2:=zi aS (zi bV (zi cH (zi cB cC)))
theorem aQ4(n:Int)(s:ByteArray)(x y:Tm){N:Int}(hx:dD N x)(hy:dD N y)(st:aA):aD prog 259 [(Tm.mk 3 n s [x,y]).av] st (fun r st'=>r=.int .i64 (ID s x y)∧st'=st):=by
 have gO:dT prog 56 (.slice [x.av,y.av]) (.int .i64 0)=some (.pptr x.av):=bS (av:=Tm.av) (l:=[x,y]) (i:=0) cF rfl (aP x)
 have kS:dT prog 56 (.slice [x.av,y.av]) (.int .i64 1)=some (.pptr y.av):=bS (av:=Tm.av) (l:=[x,y]) (i:=1) cF rfl (aP y)
 have hax:=fun st=>H3 x st hx
 have hay:=fun st=>H3 y st hy
 unfold ID both
 simp only[bU,bL,bE]
 refine wF [1000000] 1 func259 ntmps259 rfl rfl ?_
 intro _
 simp only[gO,bM,aP,aB,seval,P2]
 refine(hax _).to ?_
 generalize x.ev.1=a at *
 generalize x.ev.2=ca at *
 generalize y.ev.1=b at *
 generalize y.ev.2=cb at *
 simp only[aB,seval]
 refine aQ (fun h4=>?_) (fun h4=>?_)
 · simp only[aB,seval]
   have h4':ca≠0:=by simpa using h4
   rw[aN h4']
 have h4':ca=0:=by simpa using h4
 subst h4'
 rw[aK (by simp)]
 simp only[kS,bM,aP,aB,seval,P2]
 refine(hay _).to ?_
 simp only[aB,seval]
 refine aQ (fun h5=>?_) (fun h5=>?_)
 · simp only[aB,seval]
   have h5':cb≠0:=by simpa using h5
   rw[aN h5']
 have h5':cb=0:=by simpa using h5
 subst h5'
 rw[aK (by simp)]
 simp only[aB,seval,P2]
 refine(aQ7 s a b _).to ?_
 simp only[aB,seval]
 refine(rU _ _).to ?_
 simp only[aB,seval]
abbrev C8:=zi aS (zi bV (zi cH (zi cB cC)))
theorem aQ9(n:Int)(s:ByteArray)(x:Tm)(hs:s=⟨#[118,97,114]⟩∨s=⟨#[110,111,110,118,97,114]⟩∨s=⟨#[97,116,111,109]⟩∨s=⟨#[105,110,116]⟩)(st:aA) :
 aD prog 260 [(Tm.mk 3 n s [x]).av] st (fun r st'=>r=.int .i64 (lN (J8 s x))∧st'=st):=by
 obtain⟨xk,xn,xs,xt⟩:=x
 have gO:dT prog 56 (.slice [(Tm.mk xk xn xs xt).av]) (.int .i64 0)=some (.pptr (Tm.mk xk xn xs xt).av):=bS (av:=Tm.av) (l:=[Tm.mk xk xn xs xt]) (i:=0) cF rfl (aP _)
 simp only[bU] at gO
 simp only[bL,bE,bU]
 refine wF [1000000] 1 func260 ntmps260 rfl rfl ?_
 intro _
 simp only[gO,aB,↓aU,seval,C8]
 refine aQ (fun h=>?_) (fun h=>?_)
 · have hs':s=⟨#[118,97,114]⟩:=by simpa using h
   subst hs'
   simp only[aB,seval,C8]
   refine(rU _ _).to ?_
   simp only[aB,seval]
   rfl
 have h1:s≠⟨#[118,97,114]⟩:=by simpa using h
 simp only[aB,seval]
 refine aQ (fun h=>?_) (fun h=>?_)
 · have hs':s=⟨#[110,111,110,118,97,114]⟩:=by simpa using h
   subst hs'
   simp only[aB,seval,C8]
   refine(rU _ _).to ?_
   simp only[aB,seval]
   rfl
 have h2:s≠⟨#[110,111,110,118,97,114]⟩:=by simpa using h
 simp only[aB,seval]
 refine aQ (fun h=>?_) (fun h=>?_)
 · have hs':s=⟨#[105,110,116]⟩:=by simpa using h
   subst hs'
   simp only[aB,seval,C8]
   refine(rU _ _).to ?_
   simp only[aB,seval]
   rfl
 have h3:s≠⟨#[105,110,116]⟩:=by simpa using h
 have hs':s=⟨#[97,116,111,109]⟩:=by simpa [h1,h2,h3] using hs
 subst hs'
 have et:J8 ⟨#[97,116,111,109]⟩ (Tm.mk xk xn xs xt)=(decide (xk=3)&&decide ((xt.length:Int)=0)):=rfl
 rw[et]
 simp only[aB,seval,C8]
 refine cK (fun h4=>?_) (fun h4=>?_)
 · simp only[h4,aE,aB,seval,C8]
   refine(rU _ _).to ?_
   simp only[aB,seval]
 · simp only[h4,aB,seval]
   refine(rU _ _).to ?_
   simp only[aB,seval]
   simp at h4;simp []
def qJ(x y:Tm):Tm×Int:=if x.k=1∨y.k=1 then(Tm.zero,2) else if x.k≠2∨y.k≠3∨y.ts.length=0 then(Tm.zero,3) else match sX x y with
 | some u=>(u,0)
 | none=>(Tm.zero,1)
abbrev nM:=zi aS (zi cB cC)
theorem aQ3{N:Int}(n:Int)(s:ByteArray)(x y z:Tm)(hy:dD N y)(st:aA):aD prog 257 [(Tm.mk 3 n s [x,y,z]).av] st (fun r st'=>r=.tup [(qJ x y).1.av,.int .i64 (qJ x y).2]∧st'=st):=by
 have gO:dT prog 56 (.slice [x.av,y.av,z.av]) (.int .i64 0)=some (.pptr x.av):=bS (av:=Tm.av) (l:=[x,y,z]) (i:=0) cF rfl (aP x)
 have kS:dT prog 56 (.slice [x.av,y.av,z.av]) (.int .i64 1)=some (.pptr y.av):=bS (av:=Tm.av) (l:=[x,y,z]) (i:=1) cF rfl (aP y)
 obtain⟨xk,xn,xs,xt⟩:=x
 obtain⟨yk,yn,ys,yt⟩:=y
 have hyl:yt.length≤4:=by
  exact hy.kind.2
 rw[bU] at gO
 simp only[bU xk,bU yk] at gO kS
 unfold qJ
 simp only[bU 3,bL,bE,bU xk,bU yk,Tm.k,Tm.ts]
 refine aD.done ?_
 refine wF [1000000] 1 func257 ntmps257 rfl rfl ?_
 intro _
 simp only[gO,kS,aB,↓aU,seval,nM]
 intro b hb
 have qU:∀o (p:Tm×Int) (k:Int),p=(Tm.zero,k)→(AV.tup [.agg [.int .i64 0,.int .i64 0,.str ⟨#[]⟩,.fslice []],.int .i64 k]).soft=.tup [p.1.av,.int .i64 p.2]∧aL (st.aC b o) st:=fun o p k e=>by
  rw[e]
  exact⟨by simp only[Tm.zero,bU,jV,kG,jW,nJ,nI,bL,bE,bE],(aL.refl _).aC hb⟩
 refine cK (fun h=>?_) (fun h=>?_)
 case refine_2=>
  have h':xk=1:=by simpa using h
  simp only[h,aG,aB,seval,nM]
  exact qU _ _ 2 (aN (.inl h'))
 have hx1:xk≠1:=by simpa using h
 simp only[h,aB,seval,nM]
 refine aQ (fun h1=>?_) (fun h1=>?_)
 · have h':yk=1:=by simpa using h1
   simp only[aG,aB,seval,nM]
   exact qU _ _ 2 (aN (.inr h'))
 have hy1:yk≠1:=by simpa using h1
 rw[aK (fun h2=>h2.elim hx1 hy1)]
 simp only[aB,seval,nM]
 refine cK (fun h4=>?_) (fun h4=>?_)
 case refine_2=>
  have h':xk≠2:=by simpa using h4
  simp only[h4,aG,aB,seval,nM]
  exact qU _ _ 3 (aN (.inl h'))
 have hx2:xk=2:=by simpa using h4
 simp only[h4,aB,seval,nM]
 refine cK (fun h5=>?_) (fun h5=>?_)
 case refine_2=>
  have h':yk≠3:=by simpa using h5
  simp only[h5,aG,aB,seval,nM]
  exact qU _ _ 3 (aN (.inr (.inl h')))
 have hy3:yk=3:=by simpa using h5
 simp only[h5,aE,aB,seval,nM]
 refine aQ (fun h6=>?_) (fun h6=>?_)
 · have h':yt.length=0:=by simp at h6;simp [h6]
   simp only[aG,aB,seval,nM]
   exact qU _ _ 3 (aN (.inr (.inr h')))
 have hyt:yt.length≠0:=by simp at h6;simpa using h6
 rw[aK (by simp [hx2,hy3];intro h7;simp [h7] at hyt)]
 simp only[aB,seval,nM]
 have hno:¬(1≤xn∧xn≤yt.length)→(match sX (.mk xk xn xs xt) (.mk yk yn ys yt) with | some u=>(u,(0:Int)) | none=>(Tm.zero,1))=(Tm.zero,(1:Int)):=fun h'=>by
  have ea:sX (.mk xk xn xs xt) (.mk yk yn ys yt)=none:=aK h'
  rw[ea]
 refine cK (fun h7=>?_) (fun h7=>?_)
 case refine_2=>
  have h':xn<1:=by simpa using h7
  simp only[h7,aG,aB,seval,nM]
  exact qU _ _ 1 (hno (by omega))
 have hl1:¬xn<1:=by simpa using h7
 simp only[h7,aE,aB,seval,nM]
 refine aQ (fun h8=>?_) (fun h8=>?_)
 · have h':(yt.length:Int)<xn:=by simpa using h8
   simp only[aG,aB,seval,nM]
   exact qU _ _ 1 (hno (by omega))
 have hl2:¬(yt.length:Int)<xn:=by simpa using h8
 have h':1≤xn∧xn≤yt.length:=by omega
 obtain⟨i,hi⟩:∃i:Nat,xn - 1=i:=⟨(xn - 1).toNat,by omega⟩
 have hlt:i<yt.length:=by omega
 obtain⟨u,hu⟩:∃u,yt[i]?=some u:=⟨_,eL hlt⟩
 have ea:sX (.mk xk xn xs xt) (.mk yk yn ys yt)=some u:=by
  refine(aN h').trans ?_
  show yt[(xn - 1).toNat]?=some u
  rw[hi,gI,hu]
 rw[ea]
 have hw:IntKind.i64.wrap (xn - 1)=(i:Int):=by rw[wrap64 (by omega) (by omega)];exact hi
 have aWU:=bS (av:=Tm.av) (P:=prog) cF hu (aP u)
 simp only[cI,cR,fL (cI _),fJ (bM _),aWU,hw,bM,aP,aG,aB,seval,nM]
 exact⟨by simp only[kG,jW,Tm.soft,bL,bE,Tm.soft],(aL.refl _).aC hb⟩
theorem aYC(n:Int):(tM n).av=(Tm.mk 2 n ⟨#[]⟩ []).av:=rfl
end Go.AW
