/- Unification: it keeps the bindings good, makes the terms equal, and is most general; it comes to an end. -/
import Derived.Test.YtieofkhcboolkaaGreatDoorVai
import Derived.Test.YtieofkhcboolkaaGreatDoorVaf
import Derived.Test.YtieofkhcboolkaaGreatDoorVah
import Derived.Test.YtieofkhcboolkaaGreatDoorVak
set_option linter.unusedSimpArgs false
set_option linter.unusedVariables false
set_option maxRecDepth 100000
namespace Go.AW
abbrev cQ (σ:Sub):Prop:=∃R rk B,Good σ R rk B
theorem cQ.rs{σ:Sub}(h:cQ σ):∃rk B,Good σ (rs σ) rk B:=by
 obtain⟨R,rk,B,G⟩:=h
 exact⟨rk,B,by rw[G.rs];exact G⟩
theorem cQ.none:cQ Sub.none:=⟨_,_,_,Good.none⟩
structure pA (σ:Sub) (a b:List Tm) (r:Bool) (σ':Sub) (tr:List Int):Prop where
 gY:cQ σ'
 aV:∀m,m∉tr→σ' m=σ m
 new:∀m∈tr,σ m=none∧σ' m≠none
 nodup:tr.Nodup
 eq:r=true→a.map (Tm.aM (rs σ'))=b.map (Tm.aM (rs σ'))
 gen:∀θ,r9 θ σ→a.map (Tm.aM θ)=b.map (Tm.aM θ)→r=true∧r9 θ σ'
 same:tr= []→σ'=σ
theorem r9.sub{σ σ':Sub}{θ:Int→Tm}{tr:List Int}(S:r9 θ σ')(aV:∀m,m∉tr→σ' m=σ m)(new:∀m∈tr,σ m=none∧σ' m≠none):r9 θ σ:=fun n u h=>by
 by_cases hn:n∈tr
 · rw[(new n hn).1] at h;cases h
 · exact S n u (by rw[aV n hn];exact h)
theorem pA.xR{σ σ':Sub}{a b:List Tm}{r:Bool}{tr:List Int}(h:pA σ a b r σ' tr):r9 (rs σ') σ:=by
 obtain⟨rk,B,G⟩:=h.gY.rs
 exact G.xR.sub h.aV h.new
theorem pA.stays{σ σ':Sub}{a b:List Tm}{r:Bool}{tr:List Int}(h:pA σ a b r σ' tr)(hg:cQ σ){x y:Tm}(e:x.aM (rs σ)=y.aM (rs σ)):x.aM (rs σ')=y.aM (rs σ'):=by
 obtain⟨rk,B,G⟩:=hg.rs
 rw[←G.R5 h.xR x,←G.R5 h.xR y,e]
theorem Y6{σ:Sub}(hg:cQ σ){a b:Tm}{n:Int}(ha:a.k=1)(han:a.n=n)(hn:σ n=none)(hb:b.k=1→σ b.n=none∧b.n≠n){r:Bool}{σ':Sub}{tr:List Int}(h:kH σ n b=(r,σ',tr)):pA σ [a] [b] r σ' tr:=by
 obtain⟨rk,B,G⟩:=hg.rs
 have hav:∀θ,a.aM θ=θ n:=fun θ=>by rw[Tm.E7 θ ha,han]
 unfold kH at h
 split at h
 · rename_i eT
   cases h
   refine⟨hg,fun _ _=>rfl,fun _ h=>absurd h (dK),oF,fun h=>(by cases h),fun θ S e=>?_,fun _=>rfl⟩
   exfalso
   simp only[bA,aY,List.cons.injEq,eS] at e
   rw[hav] at e
   by_cases hbk:b.k=1
   · rw[Tm.E7 _ hbk,G.free (hb hbk).1,AZ] at eT
     simp only[cY,dK,dQ] at eT
     exact(hb hbk).2 eT.symm
   · rw[←G.R5 S b] at e
     have h1:((b.aM (rs σ)).aM θ)=(b.aM (rs σ)).aM θ:=rfl
     have hk:(b.aM (rs σ)).k≠1:=by rw[Tm.rO _ hbk];exact hbk
     have:=(a7S (f:=θ) (b.aM (rs σ)) eT).2 hk
     rw[e] at this
     exact absurd this (Nat.lt_irrefl _)
 · rename_i eT
   cases h
   obtain⟨rk',B',G'⟩:=G.bind hn eT
   have hR:=G'.rs
   refine⟨⟨_,_,_,G'⟩,fun m hm=>?_,fun m hm=>?_,by simp,fun _=>?_,fun θ S e=>⟨rfl,fun m u hu=>?_⟩,fun h=>(by cases h)⟩
   · simp only[cY,dK,dQ] at hm
     simp only[Sub.set,hm,dT]
   · simp only[cY,dK,dQ] at hm
     subst hm
     exact⟨hn,by simp [Sub.set]⟩
   · simp only[bA,aY,List.cons.injEq,eS]
     rw[hav,hR]
     exact G'.bound (by simp [Sub.set])
   · simp only[bA,aY,List.cons.injEq,eS] at e
     rw[hav] at e
     simp only[Sub.set] at hu
     split at hu
     · rename_i hmn
       cases hu
       rw[hmn,e]
     · exact S m u hu
theorem uG{a b:Tm}:vR a b=true↔a.k=b.k∧a.n=b.n∧a.s=b.s∧a.ts.length=b.ts.length:=by
 simp only[vR,bV,bK,and_assoc]
theorem aR7(g:Nat)(a6H:∀σ a b r σ' tr,cQ σ→dH g σ a b=some (r,σ',tr)→pA σ [a] [b] r σ' tr):∀xs ys σ r σ' tr,cQ σ→xs.length=ys.length→dZ g σ xs ys=some (r,σ',tr)→pA σ xs ys r σ' tr:=by
 intro xs
 have ihU:=a6H
 induction xs with
 | nil=>
  intro ys σ r σ' tr hg hl h
  cases ys with
  | cons _ _=>simp at hl
  | nil=>
   simp only[dZ,Option.some.injEq,Prod.mk.injEq] at h
   obtain⟨rfl,rfl,rfl⟩:=h
   exact⟨hg,fun _ _=>rfl,fun _ h=>absurd h (dK),oF,fun _=>rfl,fun θ S _=>⟨rfl,S⟩,fun _=>rfl⟩
 | cons a xs ih=>
  intro ys σ r σ' tr hg hl h
  cases ys with
  | nil=>simp at hl
  | cons b ys=>
   rw[dZ] at h
   cases h1:dH g σ a b with
   | none=>rw[h1] at h;cases h
   | some p=>
    obtain⟨r1,σ1,tr1⟩:=p
    have U1:=ihU σ a b r1 σ1 tr1 hg h1
    rw[h1] at h
    cases r1 with
    | false=>
     simp only[Option.some.injEq,Prod.mk.injEq] at h
     obtain⟨rfl,rfl,rfl⟩:=h
     refine⟨U1.gY,U1.aV,U1.new,U1.nodup,fun h=>(by cases h),fun θ S e=>?_,U1.same⟩
     simp only[bA,List.cons.injEq] at e
     exact U1.gen θ S (by simp [e.1])
    | true=>
     simp only at h
     cases h2:dZ g σ1 xs ys with
     | none=>rw[h2] at h;cases h
     | some p2=>
      obtain⟨r2,σ2,tr2⟩:=p2
      rw[h2] at h
      simp only[Option.some.injEq,Prod.mk.injEq] at h
      obtain⟨rfl,rfl,rfl⟩:=h
      have U2:=ih ys σ1 r2 σ2 tr2 U1.gY (by simpa using hl) h2
      refine⟨U2.gY,fun m hm=>?_,fun m hm=>?_,?_,fun hr=>?_,fun θ S e=>?_,fun h=>?_⟩
      · simp only[eH,not_or] at hm
        rw[U2.aV m hm.2,U1.aV m hm.1]
      · rcases eH.1 hm with hm | hm
        · refine⟨(U1.new m hm).1,fun h=>(U1.new m hm).2 ?_⟩
          by_cases h3:m∈tr2
          · exact(U2.new m h3).1
          · rw[←U2.aV m h3];exact h
        · refine⟨?_,(U2.new m hm).2⟩
          by_cases h3:m∈tr1
          · exact(U1.new m h3).1
          · rw[←U1.aV m h3];exact(U2.new m hm).1
      · rw[pS]
        refine⟨U1.nodup,U2.nodup,fun x hx y hy e=>?_⟩
        subst e
        exact(U1.new x hx).2 (U2.new x hy).1
      · have e1:=U1.eq rfl
        simp only[bA,aY,List.cons.injEq,eS] at e1
        simp only[bA]
        rw[U2.stays U1.gY e1,U2.eq hr]
      · simp only[bA,List.cons.injEq] at e
        obtain⟨_,S1⟩:=U1.gen θ S (by simp [e.1])
        exact U2.gen θ S1 e.2
      · simp only[List.append_eq_nil_iff] at h
        rw[U2.same h.2,U1.same h.1]
theorem bCG:∀(g:Nat),(∀σ a b r σ' tr,cQ σ→dH g σ a b=some (r,σ',tr)→pA σ [a] [b] r σ' tr) ∧
 ∀xs ys σ r σ' tr,cQ σ→xs.length=ys.length→dZ g σ xs ys=some (r,σ',tr)→pA σ xs ys r σ' tr:=by
 intro g
 induction g with
 | zero=>
  have h0:∀σ a b r σ' tr,cQ σ→dH 0 σ a b=some (r,σ',tr)→pA σ [a] [b] r σ' tr:=fun σ a b r σ' tr hg h=>by simp only[dH] at h;cases h
  exact⟨h0,aR7 _ h0⟩
 | succ g ih=>
  suffices hU:∀σ a b r σ' tr,cQ σ→dH (g+1) σ a b=some (r,σ',tr)→pA σ [a] [b] r σ' tr from ⟨hU,aR7 _ hU⟩
  intro σ a b r σ' tr hg h
  obtain⟨ihU,ihL⟩:=ih
  have a6G:=fun xs ys σ r σ' tr hg hl h=>ihL xs ys σ r σ' tr hg hl h
  obtain⟨rk,B,G⟩:=hg.rs
  obtain⟨fa,wa⟩:=G.wk a
  obtain⟨fb,wb⟩:=G.wk b
  have hma:∀θ,r9 θ σ→(wk σ a).aM θ=a.aM θ:=fun θ S=>wa.aM S
  have hmb:∀θ,r9 θ σ→(wk σ b).aM θ=b.aM θ:=fun θ S=>wb.aM S
  -- it suffices to speak of the walked terms
  suffices hw:pA σ [wk σ a] [wk σ b] r σ' tr by
   refine⟨hw.gY,hw.aV,hw.new,hw.nodup,fun hr=>?_,fun θ S e=>?_,hw.same⟩
   · have:=hw.eq hr
     simp only[bA,aY,List.cons.injEq,eS] at this ⊢
     rw[←hma _ hw.xR,←hmb _ hw.xR];exact this
   · refine hw.gen θ S ?_
     simp only[bA,aY,List.cons.injEq,eS] at e ⊢
     rw[hma θ S,hmb θ S];exact e
  have ea:=wa.end
  have eb:=wb.end
  rw[dH] at h
  generalize wk σ a=a at *
  generalize wk σ b=b at *
  split at h
  · rename_i hc
    simp only[Option.some.injEq,Prod.mk.injEq] at h
    obtain⟨rfl,rfl,rfl⟩:=h
    have he:∀θ,a.aM θ=b.aM θ:=fun θ=>by rw[Tm.E7 θ hc.1,Tm.E7 θ hc.2.1,hc.2.2]
    exact⟨hg,fun _ _=>rfl,fun _ h=>absurd h (dK),oF,fun _=>by simp [he],fun θ S _=>⟨rfl,S⟩,fun _=>rfl⟩
  · rename_i hc
    split at h
    · rename_i ha
      exact Y6 hg ha rfl (ea ha) (fun hb=>⟨eb hb,fun e=>hc ⟨ha,hb,e.symm⟩⟩) (mD h)
    · rename_i ha
      split at h
      · rename_i hb
        have U:=Y6 hg hb rfl (eb hb) (fun ha'=>absurd ha' ha) (mD h)
        exact⟨U.gY,U.aV,U.new,U.nodup,fun hr=>(U.eq hr).symm,fun θ S e=>U.gen θ S e.symm,U.same⟩
      · rename_i hb
        split at h
        · rename_i hh
          rw[uG] at hh
          have U:=a6G a.ts b.ts σ r σ' tr hg hh.2.2.2 h
          refine⟨U.gY,U.aV,U.new,U.nodup,fun hr=>?_,fun θ S e=>?_,U.same⟩
          · simp only[bA,aY,List.cons.injEq,eS]
            rw[Tm.rO _ ha,Tm.rO _ hb,hh.1,hh.2.1,hh.2.2.1,U.eq hr]
          · simp only[bA,aY,List.cons.injEq,eS] at e
            rw[Tm.rO _ ha,Tm.rO _ hb] at e
            exact U.gen θ S (by injection e)
        · rename_i hh
          simp only[Option.some.injEq,Prod.mk.injEq] at h
          obtain⟨rfl,rfl,rfl⟩:=h
          refine⟨hg,fun _ _=>rfl,fun _ h=>absurd h (dK),oF,fun h=>(by cases h),fun θ S e=>?_,fun _=>rfl⟩
          exfalso
          simp only[bA,aY,List.cons.injEq,eS] at e
          rw[Tm.rO _ ha,Tm.rO _ hb] at e
          injection e with e1 e2 e3 e4
          exact hh (uG.2 ⟨e1,e2,e3,by simpa using eA List.length e4⟩)
theorem yG{g:Nat}{σ:Sub}{a b:Tm}{r:Bool}{σ':Sub}{tr:List Int}(hg:cQ σ)(h:dH g σ a b=some (r,σ',tr)):pA σ [a] [b] r σ' tr:=(bCG g).1 σ a b r σ' tr hg h
theorem aR8(g g':Nat)(ih:∀σ a b x,dH g σ a b=some x→dH g' σ a b=some x):∀xs ys σ x,dZ g σ xs ys=some x→dZ g' σ xs ys=some x:=by
 intro xs
 induction xs with
 | nil=>intro ys σ x h;cases ys<;>simpa only[dZ] using h
 | cons a xs ihx=>
  intro ys σ x h
  cases ys with
  | nil=>simpa only[dZ] using h
  | cons b ys=>
   rw[dZ] at h ⊢
   cases h1:dH g σ a b with
   | none=>rw[h1] at h;cases h
   | some p=>
    rw[h1] at h
    rw[ih _ _ _ _ h1]
    obtain⟨r1,σ1,tr1⟩:=p
    cases r1 with
    | false=>exact h
    | true=>
     simp only at h ⊢
     cases h2:dZ g σ1 xs ys with
     | none=>rw[h2] at h;cases h
     | some p2=>rw[h2] at h;rw[ihx ys σ1 p2 h2];exact h
theorem bCI:∀(g:Nat) σ a b x,dH g σ a b=some x→dH (g+1) σ a b=some x:=by
 intro g
 induction g with
 | zero=>intro σ a b x h;simp only[dH] at h;cases h
 | succ g ih=>
  intro σ a b x h
  rw[dH] at h ⊢
  split
  · rename_i hc;rw[aG hc] at h;exact h
  · rename_i hc
    rw[aE hc] at h
    split
    · rename_i hc;rw[aG hc] at h;exact h
    · rename_i hc
      rw[aE hc] at h
      split
      · rename_i hc;rw[aG hc] at h;exact h
      · rename_i hc
        rw[aE hc] at h
        split
        · rename_i hc;rw[aG hc] at h;exact aR8 g (g+1) ih _ _ _ _ h
        · rename_i hc;rw[aE hc] at h;exact h
theorem O4{g g':Nat}(hle:g≤g'){σ:Sub}{a b:Tm}{x:Bool×Sub×List Int}(h:dH g σ a b=some x):dH g' σ a b=some x:=by
 induction hle with
 | refl=>exact h
 | step _ ih=>exact bCI _ _ _ _ _ ih
theorem bCL{g g':Nat}(hle:g≤g'){σ:Sub}{xs ys:List Tm}{x:Bool×Sub×List Int}(h:dZ g σ xs ys=some x):dZ g' σ xs ys=some x:=
 aR8 g g' (fun _ _ _ _ h=>O4 hle h) xs ys σ x h
def uY(σ:Sub)(V:List Int):Nat:=V.countP fun v=>(σ v).isNone
def i8(V:List Int)(t:Tm):Prop:=∀v∈t.vl,v∈V
def mU(V:List Int)(σ:Sub):Prop:=∀n u,σ n=some u→i8 V u
theorem bCE{σ σ':Sub}{tr:List Int}{V:List Int}(aV:∀m,m∉tr→σ' m=σ m)(new:∀m∈tr,σ m=none∧σ' m≠none){m:Int}(hm:m∈tr)(hV:m∈V):uY σ' V<uY σ V:=by
 have mono:∀v,(σ' v).isNone=true→(σ v).isNone=true:=fun v h=>by
  by_cases hv:v∈tr
  · rw[(new v hv).1];try rfl
  · rw[←aV v hv];exact h
 have le:∀W:List Int,uY σ' W≤uY σ W:=fun W=>List.countP_mono_left fun v _ h=>mono v h
 unfold uY at *
 induction V with
 | nil=>cases hV
 | cons v V ih=>
  simp only[List.countP_cons]
  have hle:=le V
  rcases cY.1 hV with rfl | hV
  · have h1:(σ m).isNone=true:=by rw[(new m hm).1];try rfl
    have h2:(σ' m).isNone=false:=by
     cases h:σ' m with
     | none=>exact absurd h (new m hm).2
     | some _=>rfl
    simp only[h1,h2,eX,fX,dT]
    omega
  · have:=ih hV
    have h3:=mono v
    by_cases h4:(σ' v).isNone=true
    · rw[aG h4,aG (h3 h4)];omega
    · rw[aE h4];split<;>omega
theorem fZ.IV{σ:Sub}{V:List Int}(hr:mU V σ){f:Nat}{t u:Tm}(h:fZ σ f t u)(ht:i8 V t):i8 V u:=h.all (p:=i8 V) (fun n u hu=>hr n u hu) ht
theorem i8.nW{V:List Int}{t x:Tm}(h:i8 V t)(hk:t.k≠1)(hx:x∈t.ts):i8 V x:=fun v hv=>h v (by cases t;exact(Tm.lC hk).2 ⟨x,hx,hv⟩)
theorem aR6:∀(g:Nat),(∀σ a b r σ' tr V,cQ σ→dH g σ a b=some (r,σ',tr)→mU V σ→i8 V a→i8 V b→mU V σ'∧∀m∈tr,m∈V) ∧
 ∀xs ys σ r σ' tr V,cQ σ→xs.length=ys.length→dZ g σ xs ys=some (r,σ',tr)→mU V σ→(∀x∈xs,i8 V x)→(∀y∈ys,i8 V y)→mU V σ'∧∀m∈tr,m∈V:=by
 intro g
 have list:∀g,(∀σ a b r σ' tr V,cQ σ→dH g σ a b=some (r,σ',tr)→mU V σ→i8 V a→i8 V b→mU V σ'∧∀m∈tr,m∈V) →
  ∀xs ys σ r σ' tr V,cQ σ→xs.length=ys.length→dZ g σ xs ys=some (r,σ',tr)→mU V σ→(∀x∈xs,i8 V x)→(∀y∈ys,i8 V y)→mU V σ'∧∀m∈tr,m∈V:=by
  intro g ihU xs
  induction xs with
  | nil=>
   intro ys σ r σ' tr V hg hl h hr _ _
   cases ys with
   | cons _ _=>simp at hl
   | nil=>
    simp only[dZ,Option.some.injEq,Prod.mk.injEq] at h
    obtain⟨rfl,rfl,rfl⟩:=h
    exact⟨hr,fun _ h=>absurd h (dK)⟩
  | cons a xs ih=>
   intro ys σ r σ' tr V hg hl h hr hx hy
   cases ys with
   | nil=>simp at hl
   | cons b ys=>
    rw[dZ] at h
    cases h1:dH g σ a b with
    | none=>rw[h1] at h;cases h
    | some p=>
     obtain⟨r1,σ1,tr1⟩:=p
     have U1:=yG hg h1
     obtain⟨i1,i2⟩:=ihU σ a b r1 σ1 tr1 V hg h1 hr (hx a (by simp)) (hy b (by simp))
     rw[h1] at h
     cases r1 with
     | false=>
      simp only[Option.some.injEq,Prod.mk.injEq] at h
      obtain⟨rfl,rfl,rfl⟩:=h
      exact⟨i1,i2⟩
     | true=>
      simp only at h
      cases h2:dZ g σ1 xs ys with
      | none=>rw[h2] at h;cases h
      | some p2=>
       obtain⟨r2,σ2,tr2⟩:=p2
       rw[h2] at h
       simp only[Option.some.injEq,Prod.mk.injEq] at h
       obtain⟨rfl,rfl,rfl⟩:=h
       obtain⟨j1,j2⟩:=ih ys σ1 r2 σ2 tr2 V U1.gY (by simpa using hl) h2 i1 (fun x h=>hx x (by simp [h])) (fun y h=>hy y (by simp [h]))
       exact⟨j1,fun m hm=>(eH.1 hm).elim (i2 m) (j2 m)⟩
 induction g with
 | zero=>
  have h0:∀σ a b r σ' tr V,cQ σ→dH 0 σ a b=some (r,σ',tr)→mU V σ→i8 V a→i8 V b→mU V σ'∧∀m∈tr,m∈V:=fun σ a b r σ' tr V hg h=>by simp only[dH] at h;cases h
  exact⟨h0,list 0 h0⟩
 | succ g ih=>
  suffices hU:∀σ a b r σ' tr V,cQ σ→dH (g+1) σ a b=some (r,σ',tr)→mU V σ→i8 V a→i8 V b→mU V σ'∧∀m∈tr,m∈V from ⟨hU,list _ hU⟩
  intro σ a b r σ' tr V hg h hr ha hb
  obtain⟨_,ihL⟩:=ih
  obtain⟨rk,B,G⟩:=hg.rs
  obtain⟨fa,wa⟩:=G.wk a
  obtain⟨fb,wb⟩:=G.wk b
  have va:=wa.IV hr ha
  have vb:=wb.IV hr hb
  have bn:∀n (t:Tm) r σ' tr,n∈V→i8 V t→kH σ n t=(r,σ',tr)→mU V σ'∧∀m∈tr,m∈V:=by
   intro n t r σ' tr hn ht h
   unfold kH at h
   split at h<;>cases h
   · exact⟨hr,fun _ h=>absurd h (dK)⟩
   · refine⟨fun m u hu=>?_,fun m hm=>by simp only[cY,dK,dQ] at hm;rw[hm];exact hn⟩
     simp only[Sub.set] at hu
     split at hu
     · cases hu;exact ht
     · exact hr m u hu
  rw[dH] at h
  generalize wk σ a=a at *
  generalize wk σ b=b at *
  split at h
  · simp only[Option.some.injEq,Prod.mk.injEq] at h
    obtain⟨rfl,rfl,rfl⟩:=h
    exact⟨hr,fun _ h=>absurd h (dK)⟩
  · split at h
    · rename_i hk
      exact bn _ _ _ _ _ (va _ (by rw[Tm.GM hk];simp)) vb (mD h)
    · rename_i hka
      split at h
      · rename_i hk
        exact bn _ _ _ _ _ (vb _ (by rw[Tm.GM hk];simp)) va (mD h)
      · rename_i hkb
        split at h
        · rename_i hh
          exact ihL a.ts b.ts σ r σ' tr V hg (uG.1 hh).2.2.2 h hr (fun x hx=>va.nW hka hx) (fun y hy=>vb.nW hkb hy)
        · simp only[Option.some.injEq,Prod.mk.injEq] at h
          obtain⟨rfl,rfl,rfl⟩:=h
          exact⟨hr,fun _ h=>absurd h (dK)⟩
def cX(p:Tm→Prop)(σ:Sub):Prop:=∀n u,σ n=some u→p u
theorem O5{p:Tm→Prop}(hp:∀t:Tm,t.k≠1→p t→∀x∈t.ts,p x):∀(g:Nat),(∀σ a b r σ' tr,cQ σ→dH g σ a b=some (r,σ',tr)→cX p σ→p a→p b→cX p σ') ∧
 ∀xs ys σ r σ' tr,cQ σ→xs.length=ys.length→dZ g σ xs ys=some (r,σ',tr)→cX p σ→(∀x∈xs,p x)→(∀y∈ys,p y)→cX p σ':=by
 intro g
 have list:∀g,(∀σ a b r σ' tr,cQ σ→dH g σ a b=some (r,σ',tr)→cX p σ→p a→p b→cX p σ') →
  ∀xs ys σ r σ' tr,cQ σ→xs.length=ys.length→dZ g σ xs ys=some (r,σ',tr)→cX p σ→(∀x∈xs,p x)→(∀y∈ys,p y)→cX p σ':=by
  intro g ihU xs
  induction xs with
  | nil=>
   intro ys σ r σ' tr hg hl h hr _ _
   cases ys with
   | cons _ _=>simp at hl
   | nil=>
    simp only[dZ,Option.some.injEq,Prod.mk.injEq] at h
    obtain⟨rfl,rfl,rfl⟩:=h
    exact hr
  | cons a xs ih=>
   intro ys σ r σ' tr hg hl h hr hx hy
   cases ys with
   | nil=>simp at hl
   | cons b ys=>
    rw[dZ] at h
    cases h1:dH g σ a b with
    | none=>rw[h1] at h;cases h
    | some p=>
     obtain⟨r1,σ1,tr1⟩:=p
     have U1:=yG hg h1
     have i1:=ihU σ a b r1 σ1 tr1 hg h1 hr (hx a (by simp)) (hy b (by simp))
     rw[h1] at h
     cases r1 with
     | false=>
      simp only[Option.some.injEq,Prod.mk.injEq] at h
      obtain⟨rfl,rfl,rfl⟩:=h
      exact i1
     | true=>
      simp only at h
      cases h2:dZ g σ1 xs ys with
      | none=>rw[h2] at h;cases h
      | some p2=>
       obtain⟨r2,σ2,tr2⟩:=p2
       rw[h2] at h
       simp only[Option.some.injEq,Prod.mk.injEq] at h
       obtain⟨rfl,rfl,rfl⟩:=h
       have j1:=ih ys σ1 r2 σ2 tr2 U1.gY (by simpa using hl) h2 i1 (fun x h=>hx x (by simp [h])) (fun y h=>hy y (by simp [h]))
       exact j1
 induction g with
 | zero=>
  have h0:∀σ a b r σ' tr,cQ σ→dH 0 σ a b=some (r,σ',tr)→cX p σ→p a→p b→cX p σ':=fun σ a b r σ' tr hg h=>by simp only[dH] at h;cases h
  exact⟨h0,list 0 h0⟩
 | succ g ih=>
  suffices hU:∀σ a b r σ' tr,cQ σ→dH (g+1) σ a b=some (r,σ',tr)→cX p σ→p a→p b→cX p σ' from ⟨hU,list _ hU⟩
  intro σ a b r σ' tr hg h hr ha hb
  obtain⟨_,ihL⟩:=ih
  obtain⟨rk,B,G⟩:=hg.rs
  obtain⟨fa,wa⟩:=G.wk a
  obtain⟨fb,wb⟩:=G.wk b
  have va:=wa.all hr ha
  have vb:=wb.all hr hb
  have bn:∀n (t:Tm) r σ' tr,p t→kH σ n t=(r,σ',tr)→cX p σ':=by
   intro n t r σ' tr ht h
   unfold kH at h
   split at h<;>cases h
   · exact hr
   · intro m u hu
     simp only[Sub.set] at hu
     split at hu
     · cases hu;exact ht
     · exact hr m u hu
  rw[dH] at h
  generalize wk σ a=a at *
  generalize wk σ b=b at *
  split at h
  · simp only[Option.some.injEq,Prod.mk.injEq] at h
    obtain⟨rfl,rfl,rfl⟩:=h
    exact hr
  · split at h
    · rename_i hk
      exact bn _ _ _ _ _ vb (mD h)
    · rename_i hka
      split at h
      · rename_i hk
        exact bn _ _ _ _ _ va (mD h)
      · rename_i hkb
        split at h
        · rename_i hh
          exact ihL a.ts b.ts σ r σ' tr hg (uG.1 hh).2.2.2 h hr (fun x hx=>hp _ hka va x hx) (fun y hy=>hp _ hkb vb y hy)
        · simp only[Option.some.injEq,Prod.mk.injEq] at h
          obtain⟨rfl,rfl,rfl⟩:=h
          exact hr
theorem bCJ(V:List Int):∀(N M:Nat) (σ:Sub) (a b:Tm),cQ σ→mU V σ→i8 V a→i8 V b→uY σ V≤N→(a.aM (rs σ)).nodes≤M→∃g x,dH g σ a b=some x:=by
 intro N
 induction N using Nat.strongRecOn with
 | _ N ihN=>
 intro M
 induction M using Nat.strongRecOn with
 | _ M ihM=>
 intro σ a b hg hr ha hb hN hM
 have list:∀(xs ys:List Tm) (σ1:Sub),xs.length=ys.length→cQ σ1→mU V σ1→(σ1=σ∨uY σ1 V<uY σ V)→(∀x∈xs,i8 V x∧(x.aM (rs σ)).nodes<M)→(∀y∈ys,i8 V y)→∃g x,dZ g σ1 xs ys=some x:=by
  intro xs
  induction xs with
  | nil=>
   intro ys σ1 hl _ _ _ _ _
   cases ys with
   | cons _ _=>simp at hl
   | nil=>exact⟨0,(true,σ1,[]),by simp only[dZ]⟩
  | cons x xs ih=>
   intro ys σ1 hl hg1 hr1 hc hx hy
   cases ys with
   | nil=>simp at hl
   | cons y ys=>
    have h1:∃g p,dH g σ1 x y=some p:=by
     rcases hc with rfl | hlt
     · exact ihM _ (hx x (by simp)).2 σ1 x y hg1 hr1 (hx x (by simp)).1 (hy y (by simp)) hN (cU _)
     · exact ihN (uY σ1 V) (by omega) _ σ1 x y hg1 hr1 (hx x (by simp)).1 (hy y (by simp)) (cU _) (cU _)
    obtain⟨g1,⟨r1,σ2,tr1⟩,h1⟩:=h1
    have U1:=yG hg1 h1
    obtain⟨i1,i2⟩:=(aR6 g1).1 σ1 x y r1 σ2 tr1 V hg1 h1 hr1 (hx x (by simp)).1 (hy y (by simp))
    cases r1 with
    | false=>exact⟨g1,(false,σ2,tr1),by rw[dZ,h1]⟩
    | true=>
     have hc2:σ2=σ∨uY σ2 V<uY σ V:=by
      cases htr:tr1 with
      | nil=>rw[U1.same htr];exact hc
      | cons m _=>
       have:=bCE (V:=V) U1.aV U1.new (m:=m) (by rw[htr];simp) (i2 m (by rw[htr];simp))
       rcases hc with rfl | hlt
       · exact .inr this
       · exact .inr (Nat.lt_trans this hlt)
     obtain⟨g2,p2,h2⟩:=ih ys σ2 (by simpa using hl) U1.gY i1 hc2 (fun z hz=>hx z (by simp [hz])) (fun z hz=>hy z (by simp [hz]))
     obtain⟨r2,σ3,tr2⟩:=p2
     refine⟨max g1 g2,(r2,σ3,tr1++tr2),?_⟩
     rw[dZ,O4 (Nat.le_max_left g1 g2) h1]
     simp only
     rw[bCL (Nat.le_max_right g1 g2) h2]
 obtain⟨rk,B,G⟩:=hg.rs
 obtain⟨fa,wa⟩:=G.wk a
 obtain⟨fb,wb⟩:=G.wk b
 have va:=wa.IV hr ha
 have vb:=wb.IV hr hb
 have hma:=wa.aM G.xR
 rw[←hma] at hM
 by_cases h1:(wk σ a).k=1∧(wk σ b).k=1∧(wk σ a).n=(wk σ b).n
 · exact⟨1,_,by rw[dH,aG h1]⟩
 by_cases h2:(wk σ a).k=1
 · exact⟨1,_,by rw[dH,aE h1,aG h2]⟩
 by_cases h3:(wk σ b).k=1
 · exact⟨1,_,by rw[dH,aE h1,aE h2,aG h3]⟩
 by_cases h4:vR (wk σ a) (wk σ b)=true
 · have a4Z:∀x∈(wk σ a).ts,i8 V x∧(x.aM (rs σ)).nodes<M:=fun x hx=>by
    refine⟨va.nW h2 hx,?_⟩
    rw[Tm.rO _ h2,Tm.gJ] at hM
    have:=JL (f:=Tm.nodes) (cB.2 ⟨x,hx,rfl⟩:x.aM (rs σ)∈(wk σ a).ts.map (Tm.aM (rs σ)))
    omega
   obtain⟨g,x,h⟩:=list (wk σ a).ts (wk σ b).ts σ (uG.1 h4).2.2.2 hg hr (.inl rfl) a4Z (fun y hy=>vb.nW h3 hy)
   exact⟨g+1,x,by rw[dH,aE h1,aE h2,aE h3,aG h4];exact h⟩
 · exact⟨1,_,by rw[dH,aE h1,aE h2,aE h3,aE h4]⟩
mutual
def Tm.flat:Tm→Nat→Bool
 | .mk _ _ _ _,0=>false
 | .mk _ _ _ ts,d+1=>ON ts d
def ON:List Tm→Nat→Bool
 | [],_=>true
 | t::ts,d=>t.flat d&&ON ts d
end
theorem aRN:∀(ts:List Tm) (d:Nat),ON ts d=ts.all fun t=>t.flat d
 | [],_=>rfl
 | t::ts,d=>by simp only[ON,kY,aRN ts d]
theorem Tm.H3(t:Tm):t.flat 0=false:=by cases t;simp only[Tm.flat]
theorem Tm.xG(k n:Int)(s:ByteArray)(ts:List Tm)(d:Nat):(Tm.mk k n s ts).flat (d+1)=ts.all fun t=>t.flat d:=by simp only[Tm.flat,aRN]
mutual
def Tm.j7:Tm→Bool
 | .mk k n s ts=>eF k n s ts.length&&OQ ts
def OQ:List Tm→Bool
 | []=>true
 | t::ts=>t.j7&&OQ ts
end
theorem aRQ:∀(ts:List Tm),OQ ts=ts.all Tm.j7
 | []=>rfl
 | t::ts=>by simp only[OQ,kY,aRQ ts]
theorem Tm.CH(k n:Int)(s:ByteArray)(ts:List Tm):(Tm.mk k n s ts).j7=(eF k n s ts.length&&ts.all Tm.j7):=by simp only[Tm.j7,aRQ]
theorem YR{α:Type}(p q:α→Bool):∀l:List α,(l.all fun x=>p x&&q x)=(l.all p&&l.all q)
 | []=>rfl
 | x::l=>by simp only[kY,YR p q l];cases p x<;>cases q x<;>cases l.all p<;>simp
theorem Tm.aPH:∀(t:Tm) (d:Nat),t.shape (d:Int)=(t.j7&&t.flat d):=by
 intro t
 induction t using Tm.ind with
 | h k n s ts ih=>
  intro d
  cases d with
  | zero=>rw[Tm.H3,l8,Tm.FS];try rfl
  | succ d=>
   rw[Tm.FS,Tm.CH,Tm.xG,show decide ((1:Int)≤((d+1:Nat):Int))=true by simp;omega,dU,Bool.and_assoc,←YR]
   congr 1
   rw[show(((d+1:Nat):Int) - 1)=(d:Int) by omega]
   have:∀l:List Tm,(∀x∈l,x∈ts)→(l.all fun t=>t.shape (d:Int))=l.all fun x=>x.j7&&x.flat d:=by
    intro l
    induction l with
    | nil=>intro _;rfl
    | cons x l ihl=>intro h;rw[kY,kY,ih x (h x (by simp)),ihl fun y hy=>h y (by simp [hy])]
   exact this ts fun _ h=>h
theorem Tm.bCR{t:Tm}(h:t.valid=true):t.j7=true:=by
 simp only[Tm.valid,bV] at h
 have:=h.1
 rw[show(30:Int)=((30:Nat):Int) from rfl,Tm.aPH,bV] at this
 exact this.1
theorem Tm.aSA{t:Tm}(h:t.j7=true):t.valid=(t.flat 30&&decide (t.nodes≤120)):=by
 unfold Tm.valid
 rw[show(30:Int)=((30:Nat):Int) from rfl,Tm.aPH,h,dU]
theorem Tm.NH{k n:Int}{s:ByteArray}{ts:List Tm}(h:(Tm.mk k n s ts).j7=true):eF k n s ts.length=true∧∀x∈ts,x.j7=true:=by
 rw[Tm.CH,bV] at h
 exact⟨h.1,dW.1 h.2⟩
theorem aOM{n:Int}{s:ByteArray}{len:Int}(h:eF 1 n s len=true):0≤n∧n≤25∧s=⟨#[]⟩∧len=0:=by
 simp [eF] at h
 exact⟨h.1.1.1,h.1.1.2,h.1.2,h.2⟩
theorem a8H{k n:Int}{s:ByteArray}{len:Int}(h:eF k n s len=true):(k=1∨k=2∨k=3)∧len≤4:=by
 unfold eF at h
 by_cases h1:k=1
 · simp [h1] at h;omega
 · by_cases h2:k=2
   · simp [h2] at h;omega
   · by_cases h3:k=3
     · simp [h3] at h;omega
     · simp [h1,h2,h3] at h
theorem Tm.a77:∀(t:Tm),t.j7=true→t.cv=true:=by
 intro t
 induction t using Tm.ind with
 | h k n s ts ih=>
  intro h
  obtain⟨h1,h2⟩:=Tm.NH h
  refine Tm.nQ.2 ⟨fun hk=>?_,fun x hx=>ih x hx (h2 x hx)⟩
  subst hk
  obtain⟨_,_,h3,h4⟩:=aOM h1
  exact⟨h3,o0 (by omega)⟩
def DP:List Int:=(List.range 26).map fun i:Nat=>(i:Int)
theorem I1{n:Int}:n∈DP↔0≤n∧n≤25:=by
 simp only[DP,cB,wO]
 constructor
 · rintro⟨i,h,rfl⟩;omega
 · intro h;exact⟨n.toNat,by omega,by omega⟩
theorem Tm.a78:∀(t:Tm),t.j7=true→i8 DP t:=by
 intro t
 induction t using Tm.ind with
 | h k n s ts ih=>
  intro h v hv
  obtain⟨h1,h2⟩:=Tm.NH h
  by_cases hk:k=1
  · rw[Tm.nI hk] at hv
    simp only[cY,dK,dQ] at hv
    subst hv hk
    obtain⟨h3,h4,_⟩:=aOM h1
    exact I1.2 ⟨h3,h4⟩
  · obtain⟨x,hx,hvx⟩:=(Tm.lC hk).1 hv
    exact ih x hx (h2 x hx) v hvx
theorem a7M{f:Int→Tm}:∀(t:Tm),t.j7=true→(∀v∈t.vl,(f v).j7=true)→(t.aM f).j7=true:=by
 intro t
 induction t using Tm.ind with
 | h k n s ts ih=>
  intro h hf
  obtain⟨h1,h2⟩:=Tm.NH h
  by_cases hk:k=1
  · rw[Tm.mL f hk];exact hf n (by rw[Tm.nI hk];simp)
  · rw[Tm.kO f hk,Tm.CH,aF,h1,dU,List.all_map,dW]
    exact fun x hx=>ih x hx (h2 x hx) fun v hv=>hf v ((Tm.lC hk).2 ⟨x,hx,hv⟩)
theorem aSH{n:Int}(h:n∈DP):(vr n).j7=true:=by
 rw[I1] at h
 rw[vr,Tm.CH]
 simp [eF,h]
theorem bCH{g g':Nat}{σ:Sub}{a b:Tm}{x y:Bool×Sub×List Int}(h:dH g σ a b=some x)(h':dH g' σ a b=some y):x=y:=by
 have h1:=O4 (Nat.le_max_left g g') h
 rw[O4 (Nat.le_max_right g g') h'] at h1
 exact(mD h1).symm
structure bDE (a b:Tm) (r:Bool) (σ:Sub) (tr:List Int):Prop where
 run:∃g,dH g Sub.none a b=some (r,σ,tr)
 oD:pA Sub.none [a] [b] r σ tr
 j7:cX (fun t=>t.j7=true) σ
 IV:mU DP σ
 trV:∀m∈tr,m∈DP
theorem aN7:∀ {l V:List Int},l.Nodup→(∀x∈l,x∈V)→l.length≤V.length
 | [],_,_,_=>iU _
 | x::l,V,h,hV=>by
  rw[GT] at h
  have hx:=hV x (by simp)
  have:=aN7 (V:=V.erase x) h.2 fun y hy=>(List.mem_erase_of_ne (by rintro rfl;exact h.1 hy)).2 (hV y (by simp [hy]))
  rw[List.length_erase_of_mem hx] at this
  have:=List.length_pos_of_mem hx
  simp only[aU]
  omega
structure bC6 (a b:Tm) (bs:List Bd):Prop where
 va:a.valid=true
 vb:b.valid=true
 vs:(bs.all fun x=>x.2.valid)=true
 eq:a.aM (VL bs)=b.aM (VL bs)
 idem:∀x∈bs,x.2.aM (VL bs)=x.2
 sorted:bs.Pairwise fun x y=>x.1<y.1
abbrev zt:AV:=.agg [.int .i64 0,.int .i64 0,.str ⟨#[]⟩,.fslice []]
def mapOf(σ:Sub):Int→Option AV:=fun n=>(σ n).map Tm.av
def found:Option Tm→AV
 | some u=>.tup [u.av,.bool true]
 | none=>.tup [zt,.bool false]
theorem a7B{P:Program}{st:aB}{m:Nat}{σ:Sub}{t kt et:TypeId}{n:Int}(hm:st m=some (.map (mapOf σ)))(hu:P.underlying t=some (.map kt et))(hk:P.underlying kt=some (.int .i64))(hz:zV P et=some zt) :
 pU P st t true (.map m) (.int .i64 n)=some (found (σ n)):=by
 unfold pU
 simp only[hm,hu,hk,mapOf]
 cases h:σ n with
 | none=>simp [hz,found,AV.cD]
 | some u=>simp [found,cP]
theorem bCO{P:Program}{st:aB}{m:Nat}{σ:Sub}{t kt et:TypeId}{n:Int}{u:Tm}{K:AV→aB→Prop}(hm:st m=some (.map (mapOf σ)))(hu:P.underlying t=some (.map kt et))(hk:P.underlying kt=some (.int .i64))
 (h:K .undef (st.aC m (.map (mapOf (σ.set n u))))):tR P t st (.map m) (.int .i64 n) u.av K:=by
 unfold tR
 simp only[hu,hm,hk]
 refine⟨cP u,?_⟩
 have:oR (mapOf σ) n (some u.av)=mapOf (σ.set n u):=by
  funext x
  unfold oR mapOf Sub.set
  split<;>rfl
 rw[this]
 exact h
structure jB (st:aB) (c m:Nat) (q:AV) (σ:Sub):Prop where
 cells:st c=some (.cells [.map m,q])
 map:st m=some (.map (mapOf σ))
theorem jB.aC{st:aB}{c m b:Nat}{q:AV}{σ:Sub}{o:AO}(h:jB st c m q σ)(hb:st b=none):jB (st.aC b o) c m q σ:=
 ⟨(by rw[aB.aH _ _ (by rintro rfl;rw[h.cells] at hb;cases hb)];exact h.cells),(by rw[aB.aH _ _ (by rintro rfl;rw[h.map] at hb;cases hb)];exact h.map)⟩
theorem jB.O6{st:aB}{c m b:Nat}{q:AV}{σ:Sub}{o:AO}(h:jB st c m q σ)(h1:b≠c)(h2:b≠m):jB (st.aC b o) c m q σ:=
 ⟨(by rw[aB.aH _ _ (c9 h1)];exact h.cells),by rw[aB.aH _ _ (c9 h2)];exact h.map⟩
theorem jB.ne{st:aB}{c m b:Nat}{q:AV}{σ:Sub}(h:jB st c m q σ)(hb:st b=none):b≠c∧b≠m:=⟨(by rintro rfl;rw[h.cells] at hb;cases hb),(by rintro rfl;rw[h.map] at hb;cases hb)⟩
theorem jB.cm{st:aB}{c m:Nat}{q:AV}{σ:Sub}(h:jB st c m q σ):c≠m:=by rintro rfl;have:=h.cells;rw[h.map] at this;cases this
def mM(M:List Int):Int→Option AV:=fun x=>if x∈M then some (.bool true) else none
theorem a7A{P:Program}{st:aB}{mm:Nat}{M:List Int}{t kt et:TypeId}{n:Int}(hm:st mm=some (.map (mM M)))(hu:P.underlying t=some (.map kt et))(hk:P.underlying kt=some (.int .i64))(hz:zV P et=some (.bool false)) :
 pU P st t false (.map mm) (.int .i64 n)=some (.bool (decide (n∈M))):=by
 unfold pU
 simp only[hm,hu,hk,mM]
 by_cases h:n∈M
 · simp [h,AV.cD]
 · simp [h,hz,AV.cD]
theorem bCM{P:Program}{st:aB}{mm:Nat}{M:List Int}{t kt et:TypeId}{n:Int}{K:AV→aB→Prop}(hm:st mm=some (.map (mM M)))(hu:P.underlying t=some (.map kt et))(hk:P.underlying kt=some (.int .i64))
 (h:K .undef (st.aC mm (.map (mM (n::M))))):tR P t st (.map mm) (.int .i64 n) (.bool true) K:=by
 unfold tR
 simp only[hu,hm,hk]
 refine⟨rfl,?_⟩
 have:oR (mM M) n (some (.bool true))=mM (n::M):=by
  funext x
  unfold oR mM
  by_cases e:x=n
  · simp [e]
  · simp [e]
 rw[this]
 exact h
theorem a7P:mM []=fun _=>none:=by funext x;simp [mM]
theorem W7(t:Tm):t.wf=true→∀l:List Int,(∀v,v∈t.vars l↔v∈l∨v∈t.vl)∧(l.Nodup→(t.vars l).Nodup)∧∃m,t.vars l=l++m:=by
 induction t using Tm.ind with
 | h k n s ts ih=>
  intro h l
  obtain⟨hk,hw⟩:=Tm.W8 h
  have list:∀xs:List Tm,(∀x∈xs,x∈ts)→∀l:List Int,(∀v,v∈bT xs l↔v∈l∨∃x∈xs,v∈x.vl)∧(l.Nodup→(bT xs l).Nodup)∧∃m,bT xs l=l++m:=by
   intro xs
   induction xs with
   | nil=>intro _ l;exact⟨by simp [bT],fun h=>h,[],by simp [bT]⟩
   | cons x xs ihx=>
    intro hs l
    obtain⟨a1,a2,m1,a3⟩:=ih x (hs x (by simp)) (hw x (hs x (by simp))) l
    obtain⟨b1,b2,m2,b3⟩:=ihx (fun y hy=>hs y (by simp [hy])) (x.vars l)
    simp only[bT]
    refine⟨fun v=>?_,fun hn=>b2 (a2 hn),m1++m2,by rw[b3,a3,lL]⟩
    rw[b1,a1]
    simp [or_assoc]
  rw[Tm.vars]
  by_cases hk1:k=1
  · obtain rfl:=hk hk1
    rw[Tm.nI hk1]
    simp only[bT]
    split
    · rename_i hc
      refine⟨fun v=>by simp,fun hn=>?_,[n],rfl⟩
      rw[pS]
      refine⟨hn,by simp,fun x hx y hy e=>?_⟩
      simp only[cY,dK,dQ] at hy
      subst hy e
      exact hc.2 hx
    · rename_i hc
      refine⟨fun v=>?_,fun hn=>hn,[],by simp⟩
      have hm:n∈l:=yL fun h=>hc ⟨hk1,h⟩
      simp only[cY,dK,dQ]
      exact⟨.inl,fun h=>h.elim id fun e=>e▸hm⟩
  · rw[aE (by simp [hk1])]
    obtain⟨c1,c2,c3⟩:=list ts (fun _ h=>h) l
    exact⟨fun v=>by rw[c1,Tm.lC hk1],c2,c3⟩
theorem Tm.bCT{v:Int}:∀(t:Tm) (l:List Int),t.cv=true→(v∈t.vars l↔v∈l∨v∈t.vl):=by
 intro t
 induction t using Tm.ind with
 | h k n s ts ih=>
  intro l hcv
  obtain⟨h1,h2⟩:=Tm.nQ.1 hcv
  have key:∀(ts:List Tm) (l:List Int),(∀t∈ts,∀l,v∈t.vars l↔v∈l∨v∈t.vl)→(v∈bT ts l↔v∈l∨∃t∈ts,v∈t.vl):=by
   intro ts
   induction ts with
   | nil=>intro l _;simp [bT]
   | cons t ts iht=>
    intro l h
    simp only[bT]
    rw[iht _ (fun x hx=>h x (by simp [hx])),h t (by simp)]
    simp [or_assoc]
  simp only[Tm.vars]
  rw[key ts _ (fun t ht l=>ih t ht l (h2 t ht))]
  by_cases hk:k=1
  · obtain⟨rfl,rfl⟩:=h1 hk
    rw[Tm.nI hk]
    by_cases hn:n∈l
    · simp [hk,hn];exact fun e=>e▸hn
    · simp [hk,hn]
  · rw[Tm.lC hk];simp [hk]
theorem yF{v:Int}:∀(ts:List Tm) (l:List Int),(∀t∈ts,t.cv=true)→(v∈bT ts l↔v∈l∨∃t∈ts,v∈t.vl)
 | [],l,_=>by simp [bT]
 | t::ts,l,h=>by
  simp only[bT]
  rw[yF ts _ (fun x hx=>h x (by simp [hx])),Tm.bCT t l (h t (by simp))]
  simp [or_assoc]
theorem bCX{σ:Sub}{R:Int→Tm}{rk:Int→Nat}{B:Nat}(G:Good σ R rk B){n:Int}{W:List Int}(hW:∀w∈W,w≠n∧∀u,σ w=some u→∀v∈u.vl,v∈W):∀w∈W,n∉(R w).vl:=by
 refine fun w=>G.ind (p:=fun w=>w∈W→n∉(R w).vl) (fun w h hw hm=>?_) (fun w u h ih hw hm=>?_) w
 · rw[G.free h,AZ] at hm
   simp only[cY,dK,dQ] at hm
   exact(hW w hw).1 hm.symm
 · rw[G.bound h] at hm
   obtain⟨v,hv,hnv⟩:=(AY u).1 hm
   exact ih v hv ((hW w hw).2 u h v hv) hnv
theorem a24{w:Nat}{l:List AV}{i:Nat}{e:AV}(hw:∀e∈l,e.width=w)(h:l[i]?=some e) :
 ∃A B,l.flatMap AV.cells=A++e.cells++B∧A.length=i*w∧∀e',(l.set i e').flatMap AV.cells=A++e'.cells++B:=by
 obtain⟨hi,he⟩:=fA.1 h
 refine⟨(l.take i).flatMap AV.cells,(l.drop (i+1)).flatMap AV.cells,?_,?_,fun e'=>?_⟩
 · have:l=l.take i++e::l.drop (i+1):=by rw[←he,←qS hi,pT]
   conv=>lhs;rw[this]
   simp
 · rw[mI (fun e he=>hw e (mC he)),c7,kZ (by omega)]
 · rw[XN,aG hi]
   simp
def cellOf:Option Tm→AV
 | some u=>u.av
 | none=>zt
theorem LT(o:Option Tm):(cellOf o).width=4:=by cases o<;>first | rfl | exact aN _
theorem aY4(o:Option Tm):(cellOf o).cells.length=4:=by rw[sJ,LT]
theorem I0:∀t:Tm,t.cv=true→t.aM vr=t:=by
 intro t
 induction t using Tm.ind with
 | h k n s ts ih=>
  intro h
  obtain⟨h1,h2⟩:=Tm.nQ.1 h
  by_cases hk:k=1
  · obtain⟨rfl,rfl⟩:=h1 hk
    rw[Tm.mL vr hk,hk];try rfl
  · rw[Tm.kO vr hk]
    congr 1
    have:∀l:List Tm,(∀x∈l,x∈ts)→l.map (Tm.aM vr)=l:=by
     intro l
     induction l with
     | nil=>intro _;rfl
     | cons x l ihl=>intro hl;rw[bA,ih x (hl x (by simp)) (h2 x (hl x (by simp))),ihl fun y hy=>hl y (by simp [hy])]
    exact this ts fun _ h=>h
theorem a7L{f g:Int→Tm}:∀t:Tm,t.aM f=t.aM g→∀v∈t.vl,f v=g v:=by
 intro t
 induction t using Tm.ind with
 | h k n s ts ih=>
  intro h v hv
  by_cases hk:k=1
  · rw[Tm.mL f hk,Tm.mL g hk] at h
    rw[Tm.nI hk] at hv
    simp only[cY,dK,dQ] at hv
    rw[hv];exact h
  · rw[Tm.kO f hk,Tm.kO g hk] at h
    injection h with _ _ _ h4
    obtain⟨x,hx,hvx⟩:=(Tm.lC hk).1 hv
    obtain⟨i,hi⟩:=List.mem_iff_getElem?.1 hx
    have:=eA (fun l=>l[i]?) h4
    simp only[mA,hi,oG,Option.some.injEq] at this
    exact ih x hx this v hvx
def JE(t:Tm):Tm:=t.aM fun v=>vr (eC v (t.vars []) 0)
def lB(l:List Tm):List Tm:=l.map fun t=>t.aM fun v=>vr (eC v (bT l []) 0)
theorem aSD{D:Int→Prop}{h:Int→Int}(inj:∀v w,D v→D w→h v=h w→v=w){f:Int→Tm}(hf:∀v,D v→f v=vr (h v)) :
 ∀(t:Tm),t.wf=true→(∀v∈t.vl,D v)→∀l:List Int,(∀v∈l,D v)→(t.aM f).vars (l.map h)=(t.vars l).map h∧∀v∈t.vars l,D v:=by
 intro t
 induction t using Tm.ind with
 | h k n s ts ih=>
  intro hw hD l hl
  obtain⟨hk1,hws⟩:=Tm.W8 hw
  by_cases hk:k=1
  · obtain rfl:=hk1 hk
    have hDn:D n:=hD n (by rw[Tm.nI hk];simp)
    have eT:h n∈l.map h↔n∈l:=by
     rw[cB]
     exact⟨fun⟨m,hm,e⟩=>by rw[←inj m n (hl m hm) hDn e];exact hm,fun hm=>⟨n,hm,rfl⟩⟩
    rw[Tm.mL f hk,hf n hDn,vr,Tm.vars,Tm.vars]
    simp only[bT,hk,uX,eT]
    split
    · exact⟨by simp,fun v hv=>by
       rcases eH.1 hv with hv | hv
       · exact hl v hv
       · simp only[cY,dK,dQ] at hv;rw[hv];exact hDn⟩
    · exact⟨rfl,hl⟩
  · rw[Tm.kO f hk,Tm.vars,Tm.vars,aE (fun h=>hk h.1),aE (fun h=>hk h.1)]
    have:∀xs:List Tm,(∀x∈xs,x∈ts)→∀l:List Int,(∀v∈l,D v)→bT (xs.map (Tm.aM f)) (l.map h)=(bT xs l).map h∧∀v∈bT xs l,D v:=by
     intro xs
     induction xs with
     | nil=>intro _ l hl;exact⟨rfl,hl⟩
     | cons x xs ihx=>
      intro hs l hl
      have hx:=hs x (by simp)
      obtain⟨e1,e2⟩:=ih x hx (hws x hx) (fun v hv=>hD v ((Tm.lC hk).2 ⟨x,hx,hv⟩)) l hl
      simp only[bA,bT]
      rw[e1]
      exact ihx (fun y hy=>hs y (by simp [hy])) _ e2
    exact this ts (fun _ h=>h) l hl
theorem TP{D:Int→Prop}{h:Int→Int}(inj:∀v w,D v→D w→h v=h w→v=w)(v:Int)(hv:D v):∀(l:List Int) (i:Int),(∀w∈l,D w)→eC (h v) (l.map h) i=eC v l i
 | [],i,_=>rfl
 | x::l,i,hl=>by
  simp only[bA,eC]
  by_cases e:v=x
  · rw[aG e,aG (by rw[e])]
  · rw[aE e,aE (fun e2=>e (inj v x hv (hl x (by simp)) e2))]
    exact TP inj v hv l (i+1) fun w hw=>hl w (by simp [hw])
theorem variant{x y:Tm}{f g:Int→Tm}(hx:x.cv=true)(hf:∀v∈x.vl,(f v).cv=true)(e1:y=x.aM f)(e2:x=y.aM g):JE x=JE y:=by
 have h1:∀v∈x.vl,(f v).aM g=vr v:=by
  have:x.aM (fun v=>(f v).aM g)=x.aM vr:=by rw[←uK,←e1,←e2,I0 x hx]
  exact a7L x this
 have h2:∀v∈x.vl,f v=vr (f v).n:=fun v hv=>by
  refine Tm.aZQ (hf v hv) (yL fun hk=>?_)
  have:=h1 v hv
  rw[Tm.rO g hk] at this
  have:=eA Tm.k this
  exact hk this
 have inj:∀v w,v∈x.vl→w∈x.vl→(f v).n=(f w).n→v=w:=fun v w hv hw e=>by
  have:=h1 v hv
  rw[h2 v hv,e,←h2 w hw,h1 w hw] at this
  have:=eA Tm.n this
  exact this.symm
 obtain⟨a1,a2⟩:=aSD (D:=fun v=>v∈x.vl) (h:=fun v=>(f v).n) inj (f:=f) h2 x (Tm.tZ x hx) (fun _ h=>h) [] (fun v h=>by cases h)
 have a1':y.vars []=(x.vars []).map fun v=>(f v).n:=by rw[e1];exact a1
 unfold JE
 conv=>rhs;rw[e1]
 rw[uK]
 refine pI x fun v hv=>?_
 have:(fun w=>vr (eC w ((x.aM f).vars []) 0))=fun w=>vr (eC w (y.vars []) 0):=by rw[←e1]
 rw[h2 v hv,uL,←e1,a1',TP (D:=fun v=>v∈x.vl) (h:=fun v=>(f v).n) inj v hv (x.vars []) 0 a2]
def q9:List ByteArray:=[⟨#[43]⟩,⟨#[45]⟩,⟨#[42]⟩,⟨#[47,47]⟩,⟨#[109,111,100]⟩]
def sL:List ByteArray:=[⟨#[60]⟩,⟨#[62]⟩,⟨#[61,60]⟩,⟨#[62,61]⟩,⟨#[61,58,61]⟩]
def gB(l:List ByteArray)(s:ByteArray):Bool:=l.any fun x=>decide (s=x)
def jH(n:Int):Int×Int:=if -999≤n∧n≤999 then(n,0) else(0,5)
def rC(a b:Int):Int:=if a.tmod b≠0∧decide (a.tmod b<0)≠decide (b<0) then a.tmod b+b else a.tmod b
def sF(s:ByteArray)(a b:Int):Int×Int:=
 if s=⟨#[43]⟩ then jH (a+b) else if s=⟨#[45]⟩ then jH (a - b) else if s=⟨#[42]⟩ then jH (a*b) else if b=0 then(0,4) else if s=⟨#[109,111,100]⟩ then(rC a b,0) else(a.tdiv b,0)
def both(f:Int→Int→Int×Int)(x y:Int×Int):Int×Int:=if x.2≠0 then(0,x.2) else if y.2≠0 then(0,y.2) else f x.1 y.1
def two(f:Int→Int→Int×Int):List (Int×Int)→Int×Int
 | [x,y]=>both f x y
 | _=>(0,3)
mutual
def Tm.ev:Tm→Int×Int
 | .mk k n s ts=>if k=2 then(n,0) else if k=1 then(0,2) else if gB q9 s=true then two (sF s) (OM ts) else(0,3)
def OM:List Tm→List (Int×Int)
 | []=>[]
 | t::ts=>t.ev::OM ts
end
theorem aRM:∀ts:List Tm,OM ts=ts.map Tm.ev
 | []=>rfl
 | t::ts=>by simp only[OM,bA,aRM ts]
theorem Tm.zH(k n:Int)(s:ByteArray)(ts:List Tm):(Tm.mk k n s ts).ev=if k=2 then(n,0) else if k=1 then(0,2) else if gB q9 s=true then two (sF s) (ts.map Tm.ev) else(0,3):=by simp only[Tm.ev,aRM]
theorem OJ(a b:Int)(hb:b≠0):(0<b→-b<a.tmod b∧a.tmod b<b)∧(b<0→b<a.tmod b∧a.tmod b< -b):=by
 have h1:=PF (-a) (b:=b)
 have h2:=PF a (b:=b)
 have h3:=PF (-a) (b:= -b)
 have h4:=PF a (b:= -b)
 rw[Int.tmod_neg] at h3 h4
 rw[Int.neg_tmod] at h1 h3
 constructor
 · intro h;exact⟨by have:=h1 h;omega,h2 h⟩
 · intro h;exact⟨by have:=h3 (by omega);omega,h4 (by omega)⟩
theorem tdiv_le(a b:Int)(ha: -999≤a∧a≤999): -999≤a.tdiv b∧a.tdiv b≤999:=by
 have:(a.tdiv b).natAbs≤a.natAbs:=by rw[Int.natAbs_tdiv];exact Nat.div_le_self _ _
 omega
theorem UV(n:Int): -999≤(jH n).1∧(jH n).1≤999:=by unfold jH;split<;>simp_all
theorem aLP(a b:Int)(ha: -999≤a∧a≤999)(hb: -999≤b∧b≤999)(h0:b≠0): -999≤rC a b∧rC a b≤999:=by
 have h1:=OJ a b h0
 unfold rC
 split
 · rename_i h
   have h2:=h.2
   by_cases hb':b<0
   · have:¬a.tmod b<0:=by intro hc;simp [hb',hc] at h2
     have:=h1.2 hb'
     omega
   · have:a.tmod b<0:=by
      apply yL;intro hc;simp [hb',hc] at h2
     have:=h1.1 (by omega)
     omega
 · rcases Int.lt_or_gt_of_ne h0 with h | h
   · have:=h1.2 h;omega
   · have:=h1.1 h;omega
theorem YO(m b:Int)(h1:0≤m)(h2:m<b):(m+b).tmod b=m:=by
 obtain⟨x,rfl⟩:∃x:Nat,m=x:=⟨m.toNat,by omega⟩
 obtain⟨y,rfl⟩:∃y:Nat,b=y:=⟨b.toNat,by omega⟩
 rw[show(x:Int)+(y:Int)=((x+y:Nat):Int) by omega,←Int.ofNat_tmod,Nat.add_mod_right,Nat.mod_eq_of_lt (by omega)]
theorem a25(a b:Int)(h0:b≠0):(a.tmod b+b).tmod b=rC a b:=by
 have h1:=OJ a b h0
 have hs:∀x:Int,0≤x→x<b→x.tmod b=x:=fun x h2 h3=>Int.tmod_eq_of_lt h2 h3
 have hn:∀x:Int,x≤0→b<x→x.tmod b=x:=fun x h2 h3=>by
  have:=Int.tmod_eq_of_lt (a:= -x) (b:= -b) (by omega) (by omega)
  rw[Int.tmod_neg,Int.neg_tmod] at this
  omega
 unfold rC
 generalize a.tmod b=m at *
 by_cases hb:b<0
 · have h2:=h1.2 hb
   by_cases hm:m<0
   · rw[aE (by simp [hb,hm])]
     rw[show m+b=b+m by omega]
     have e:(b+m).tmod b=((-b)+(-m)).tmod (-b)*(-1):=by
      rw[show(-b)+(-m)= -(b+m) by omega,Int.neg_tmod,Int.tmod_neg];omega
     rw[e,Int.add_comm,YO (-m) (-b) (by omega) (by omega)]
     omega
   · by_cases hm0:m=0
     · subst hm0;rw[aE (by simp),Int.zero_add,Int.tmod_self]
     · rw[aG ⟨hm0,by simp [hb,hm]⟩]
       exact hn _ (by omega) (by omega)
 · have h2:=h1.1 (by omega)
   by_cases hm:m<0
   · rw[aG ⟨by omega,by simp [hb,hm]⟩]
     exact hs _ (by omega) (by omega)
   · rw[aE (by simp [hb,hm])]
     rw[YO m b (by omega) (by omega)]
def cJ(N:Int)(t:Tm):Prop:=(t.aM fun _=>vr 0).j7=true∧t.cv=true∧∀v∈t.vl,0≤v∧v<N
theorem cJ.mono{N M:Int}{t:Tm}(h:cJ N t)(hm:N≤M):cJ M t:=⟨h.1,h.2.1,fun v hv=>⟨(h.2.2 v hv).1,by have:=(h.2.2 v hv).2;omega⟩⟩
theorem cJ.own{N k n:Int}{s:ByteArray}{ts:List Tm}(h:cJ N (.mk k n s ts))(hk:k≠1):eF k n s ts.length=true∧∀x∈ts,cJ N x:=by
 obtain⟨h1,h2,h3⟩:=h
 rw[Tm.kO _ hk] at h1
 obtain⟨h4,h5⟩:=Tm.NH h1
 rw[aF] at h4
 exact⟨h4,fun x hx=>⟨h5 _ (cB.2 ⟨x,hx,rfl⟩),(Tm.nQ.1 h2).2 x hx,fun v hv=>h3 v ((Tm.lC hk).2 ⟨x,hx,hv⟩)⟩⟩
theorem cJ.var{N n:Int}{s:ByteArray}{ts:List Tm}(h:cJ N (.mk 1 n s ts)):0≤n∧n<N∧s=⟨#[]⟩∧ts= []:=by
 obtain⟨_,h2,h3⟩:=h
 obtain⟨h4,h5⟩:=(Tm.nQ.1 h2).1 rfl
 obtain⟨h6,h7⟩:=h3 n (by rw[Tm.nI rfl];simp)
 exact⟨h6,h7,h4,h5⟩
theorem NI(N:Int):∀t:Tm,t.k≠1→cJ N t→∀x∈t.ts,cJ N x:=fun t hk h x hx=>by
 cases t
 exact(h.own hk).2 x hx
theorem cJ.kind{N k n:Int}{s:ByteArray}{ts:List Tm}(h:cJ N (.mk k n s ts)):(k=1∨k=2∨k=3)∧ts.length≤4:=by
 by_cases hk:k=1
 · subst hk
   rw[h.var.2.2.2]
   simp
 · have:=a8H (h.own hk).1
   omega
theorem a8G{n:Int}{s:ByteArray}{len:Int}(h:eF 2 n s len=true): -999≤n∧n≤999:=by
 simp [eF] at h
 omega
theorem cJ.all{N k n:Int}{s:ByteArray}{ts:List Tm}(h:cJ N (.mk k n s ts)):(k=2→-999≤n∧n≤999)∧∀x∈ts,cJ N x:=by
 by_cases hk:k=1
 · subst hk
   rw[h.var.2.2.2]
   simp
 · obtain⟨h1,h2⟩:=h.own hk
   refine⟨fun h2=>?_,h2⟩
   subst h2
   exact a8G h1
theorem cJ.small{N:Int}:∀ {t:Tm},cJ N t→t.small=true:=by
 intro t
 induction t using Tm.ind with
 | h k n s ts ih=>
  intro h
  have h4:=h.kind.2
  simp only[Tm.small,J9,bV,bK,dW]
  refine⟨by omega,fun x hx=>?_⟩
  by_cases hk:k=1
  · subst hk;rw[h.var.2.2.2] at hx;cases hx
  · exact ih x hx ((h.own hk).2 x hx)
theorem cJ.aM{N M:Int}{f:Int→Tm}{t:Tm}(h:cJ N t)(hf:∀v∈t.vl,cJ M (f v)):cJ M (t.aM f):=by
 induction t using Tm.ind with
 | h k n s ts ih=>
  by_cases hk:k=1
  · rw[Tm.mL f hk];exact hf n (by rw[Tm.nI hk];simp)
  · obtain⟨h1,h2⟩:=h.own hk
    have key:∀x∈ts,cJ M (x.aM f):=fun x hx=>ih x hx (h2 x hx) fun v hv=>hf v ((Tm.lC hk).2 ⟨x,hx,hv⟩)
    rw[Tm.kO f hk]
    refine⟨?_,Tm.nQ.2 ⟨fun h=>absurd h hk,fun y hy=>?_⟩,fun v hv=>?_⟩
    · rw[Tm.kO _ hk,Tm.CH,aF,aF,h1,dU,dW]
      intro y hy
      simp only[pR,cB,GP] at hy
      obtain⟨x,hx,rfl⟩:=hy
      exact(key x hx).1
    · obtain⟨x,hx,rfl⟩:=cB.1 hy
      exact(key x hx).2.1
    · obtain⟨y,hy,hv⟩:=(Tm.lC hk).1 hv
      obtain⟨x,hx,rfl⟩:=cB.1 hy
      exact(key x hx).2.2 v hv
theorem I4{N n:Int}(h0:0≤n)(h1:n<N):cJ N (vr n):=by
 refine⟨by rw[uL];exact aSH (I1.2 (by omega)),Tm.nQ.2 ⟨fun _=>⟨rfl,rfl⟩,by simp⟩,fun v hv=>?_⟩
 rw[AZ] at hv
 simp only[cY,dK,dQ] at hv
 omega
theorem aOJ{t:Tm}:t.j7=true↔cJ 26 t:=by
 constructor
 · intro h
   refine⟨a7M t h fun v _=>aSH (I1.2 (by omega)),Tm.a77 t h,fun v hv=>?_⟩
   have:=I1.1 (Tm.a78 t h v hv)
   omega
 · induction t using Tm.ind with
   | h k n s ts ih=>
    intro h
    rw[Tm.CH]
    by_cases hk:k=1
    · subst hk
      obtain⟨h0,h1,rfl,rfl⟩:=h.var
      have h1':n≤25:=by omega
      simp [eF,h0,h1']
    · obtain⟨h1,h2⟩:=h.own hk
      rw[h1,dU,dW]
      exact fun x hx=>ih x hx (h2 x hx)
theorem Tm.KG{t:Tm}(h:t.valid=true):cJ 26 t:=aOJ.1 (Tm.bCR h)
theorem Good.mN{σ:Sub}{R:Int→Tm}{rk:Int→Nat}{B:Nat}(G:Good σ R rk B){N:Int}(ho:cX (cJ N) σ):∀n,0≤n→n<N→cJ N (R n):=by
 refine fun n=>G.ind (p:=fun n=>0≤n→n<N→cJ N (R n)) (fun n h h0 h1=>?_) (fun n u h ih h0 h1=>?_) n
 · rw[G.free h];exact I4 h0 h1
 · rw[G.bound h]
   exact(ho n u h).aM fun v hv=>ih v hv ((ho n u h).2.2 v hv).1 ((ho n u h).2.2 v hv).2
theorem Good.UD{σ:Sub}{R:Int→Tm}{rk:Int→Nat}{B:Nat}(G:Good σ R rk B){N:Int}(ho:cX (cJ N) σ){t:Tm}(h:cJ N t):cJ N (t.aM R):=
 h.aM fun v hv=>G.mN ho v (h.2.2 v hv).1 (h.2.2 v hv).2
def bG(N:Int)(t:Tm):Prop:=cJ N t∧t.nodes≤120
theorem rP(N:Int):∀t:Tm,t.k≠1→bG N t→∀x∈t.ts,bG N x:=fun t hk h x hx=>by
 refine⟨NI N t hk h.1 x hx,?_⟩
 have h2:=h.2
 cases t
 rw[Tm.gJ] at h2
 have:=JL (f:=Tm.nodes) hx
 simp only[Tm.ts] at this
 omega
theorem bG.mono{N M:Int}{t:Tm}(h:bG N t)(hm:N≤M):bG M t:=⟨h.1.mono hm,h.2⟩
theorem cX.mN{N:Int}{σ:Sub}(h:cX (bG N) σ):cX (cJ N) σ:=fun n u e=>(h n u e).1
theorem cX.imp{p q:Tm→Prop}{σ:Sub}(h:cX p σ)(hpq:∀t,p t→q t):cX q σ:=fun n u e=>hpq u (h n u e)
open Classical in
noncomputable def jN(σ:Sub)(a b:Tm):Bool×Sub×List Int:=if h:∃x g,dH g σ a b=some x then h.choose else(false,σ,[])
theorem aR5{g:Nat}{σ:Sub}{a b:Tm}{x:Bool×Sub×List Int}(h:dH g σ a b=some x):jN σ a b=x:=by
 unfold jN
 have h':∃x g,dH g σ a b=some x:=⟨x,g,h⟩
 rw[dif_pos h']
 obtain⟨g',h''⟩:=h'.choose_spec
 exact bCH h'' h
def VN(N:Nat):List Int:=(List.range N).map fun i:Nat=>(i:Int)
theorem xU{N:Nat}{n:Int}:n∈VN N↔0≤n∧n<N:=by
 simp only[VN,cB,wO]
 constructor
 · rintro⟨i,h,rfl⟩;omega
 · intro h;exact⟨n.toNat,by omega,by omega⟩
theorem FA{N:Nat}{tr:List Int}(h:tr.Nodup)(hV:∀m∈tr,0≤m∧m<N):tr.length≤N:=by
 have:=aN7 (V:=VN N) h fun x hx=>xU.2 (hV x hx)
 simpa [VN] using this
structure BC (N:Int) (σ:Sub) (a b:Tm) (r:Bool) (σ':Sub) (tr:List Int):Prop where
 run:∃g,dH g σ a b=some (r,σ',tr)
 eq:jN σ a b=(r,σ',tr)
 oD:pA σ [a] [b] r σ' tr
 ok:cX (bG N) σ'
 gB:∀m∈tr,0≤m∧m<N
theorem uZ{N:Nat}{σ:Sub}{a b:Tm}(hg:cQ σ)(ho:cX (bG N) σ)(ha:bG N a)(hb:bG N b):∃r σ' tr,BC N σ a b r σ' tr:=by
 have hin:∀ {t:Tm},bG N t→i8 (VN N) t:=fun h v hv=>xU.2 (h.1.2.2 v hv)
 have hr:mU (VN N) σ:=fun n u e=>hin (ho n u e)
 obtain⟨g,⟨r,σ',tr⟩,h⟩:=bCJ (VN N) _ _ σ a b hg hr (hin ha) (hin hb) (cU _) (cU _)
 obtain⟨h1,h2⟩:=(aR6 g).1 σ a b r σ' tr (VN N) hg h hr (hin ha) (hin hb)
 exact⟨r,σ',tr,⟨g,h⟩,aR5 h,yG hg h,(O5 (rP N) g).1 σ a b r σ' tr hg h ho ha hb,fun m hm=>xU.1 (h2 m hm)⟩
theorem BC.out{N:Int}{σ:Sub}{a b:Tm}{r:Bool}{σ':Sub}{tr:List Int}(h:BC N σ a b r σ' tr)(n:Int):(if n∈tr then none else σ' n)=σ n:=by
 split
 · rename_i hn;exact((h.oD.new n hn).1).symm
 · rename_i hn;exact h.oD.aV n hn
def Sub.out(σ:Sub)(l:List Int):Sub:=fun n=>if n∈l then Option.none else σ n
theorem Sub.a8D(σ:Sub)(l m:List Int):(σ.out l).out m=σ.out (l++m):=by
 funext n
 unfold Sub.out
 by_cases h1:n∈m
 · rw[aG h1,aG (by simp [h1])]
 · rw[aE h1]
   by_cases h2:n∈l
   · rw[aG h2,aG (by simp [h2])]
   · rw[aE h2,aE (by simp [h1,h2])]
theorem Sub.a8E(σ:Sub){l m:List Int}(h:∀n,n∈l↔n∈m):σ.out l=σ.out m:=by
 funext n
 unfold Sub.out
 simp only[h n]
def b9(ρ:Int→Int)(t:Tm):Tm:=t.aM fun v=>vr (ρ v)
theorem a9G(ρ:Int→Int)(n:Int):b9 ρ (vr n)=vr (ρ n):=uL _ n
theorem x6(ρ:Int→Int){k n:Int}{s:ByteArray}{ts:List Tm}(h:k≠1):b9 ρ (.mk k n s ts)=.mk k n s (ts.map (b9 ρ)):=Tm.kO _ h
theorem AD(ρ:Int→Int){t:Tm}(h:t.k=1):b9 ρ t=vr (ρ t.n):=Tm.E7 _ h
theorem FP(ρ:Int→Int){t:Tm}(h:t.k≠1):b9 ρ t=.mk t.k t.n t.s (t.ts.map (b9 ρ)):=Tm.rO _ h
theorem AC(ρ:Int→Int)(t:Tm):(b9 ρ t).k=t.k:=by
 by_cases h:t.k=1
 · rw[AD ρ h,h];try rfl
 · rw[FP ρ h];try rfl
theorem NS(ρ:Int→Int){t:Tm}(hc:t.cv=true):(b9 ρ t).nodes=t.nodes:=by
 induction t using Tm.ind with
 | h k n s ts ih=>
  obtain⟨h1,h2⟩:=Tm.nQ.1 hc
  by_cases hk:k=1
  · obtain⟨_,rfl⟩:=h1 hk
    rw[AD ρ (t:=.mk k n s []) hk,vr,Tm.gJ,Tm.gJ]
  · rw[x6 ρ hk,Tm.gJ,Tm.gJ]
    congr 1
    have:∀l:List Tm,(∀x∈l,x∈ts)→bB Tm.nodes (l.map (b9 ρ))=bB Tm.nodes l:=by
     intro l
     induction l with
     | nil=>intro _;rfl
     | cons x l ihl=>intro h;simp only[bA,bB];rw[ih x (h x (by simp)) (h2 x (h x (by simp))),ihl fun y hy=>h y (by simp [hy])]
    exact this ts fun _ h=>h
theorem UY(ρ:Int→Int){t:Tm}(hc:t.cv=true):∀d,(b9 ρ t).flat d=t.flat d:=by
 induction t using Tm.ind with
 | h k n s ts ih=>
  intro d
  obtain⟨h1,h2⟩:=Tm.nQ.1 hc
  cases d with
  | zero=>rw[Tm.H3,Tm.H3]
  | succ d=>
   by_cases hk:k=1
   · obtain⟨_,rfl⟩:=h1 hk
     rw[AD ρ (t:=.mk k n s []) hk,vr,Tm.xG,Tm.xG]
   · rw[x6 ρ hk,Tm.xG,Tm.xG,List.all_map]
     rw[wK,dW,dW]
     constructor
     · intro h x hx;rw[←ih x hx (h2 x hx) d];exact h x hx
     · intro h x hx;simp only[GP];rw[ih x hx (h2 x hx) d];exact h x hx
theorem bCV{ρ:Int→Int}{t:Tm}{w:Int}:w∈(b9 ρ t).vl↔∃v∈t.vl,w=ρ v:=by
 unfold b9
 rw[AY]
 simp only[AZ,cY,dK,dQ]
theorem UX{ρ ρ':Int→Int}{t:Tm}(h:∀v∈t.vl,ρ v=ρ' v):b9 ρ t=b9 ρ' t:=pI t fun v hv=>by rw[h v hv]
theorem JD(ρ:Int→Int)(f:Int→Tm)(t:Tm):(b9 ρ t).aM f=t.aM fun v=>f (ρ v):=by
 unfold b9
 rw[uK]
 exact pI t fun v _=>uL f (ρ v)
theorem aNX(ρ:Int→Int)(f:Int→Tm)(t:Tm):b9 ρ (t.aM f)=t.aM fun v=>b9 ρ (f v):=by
 unfold b9
 rw[uK]
theorem cJ.b9{N M:Int}{ρ:Int→Int}{t:Tm}(h:cJ N t)(hr:∀v∈t.vl,0≤ρ v∧ρ v<M):cJ M (AW.b9 ρ t):=h.aM fun v hv=>I4 (hr v hv).1 (hr v hv).2
theorem bG.b9{N M:Int}{ρ:Int→Int}{t:Tm}(h:bG N t)(hr:∀v∈t.vl,0≤ρ v∧ρ v<M):bG M (AW.b9 ρ t):=⟨h.1.b9 hr,by rw[NS ρ h.1.2.1];exact h.2⟩
structure fM (ρ:Int→Int) (N:Int) (σ τ:Sub):Prop where
 inj:∀v w,0≤v→v<N→0≤w→w<N→ρ v=ρ w→v=w
 map:∀v,0≤v→v<N→τ (ρ v)=(σ v).map (b9 ρ)
section
variable {ρ:Int→Int} {N:Int} {σ τ:Sub}
theorem fM.wk(S:fM ρ N σ τ)(ho:cX (cJ N) σ){f:Nat}{t u:Tm}(h:fZ σ f t u):cJ N t→fZ τ f (b9 ρ t) (b9 ρ u):=by
 induction h with
 | @stop t h=>
  intro ht
  refine .stop fun hk=>?_
  rw[AC] at hk
  have hr:=ht.2.2 t.n (by rw[Tm.GM hk];simp)
  rw[AD ρ hk]
  show τ (ρ t.n)=none
  rw[S.map _ hr.1 hr.2,h hk];try rfl
 | @go f t u v h1 h2 _ ih=>
  intro ht
  have hr:=ht.2.2 t.n (by rw[Tm.GM h1];simp)
  refine .go (u:=b9 ρ u) (by rw[AC];exact h1) ?_ (ih (ho _ _ h2))
  rw[AD ρ h1]
  show τ (ρ t.n)=_
  rw[S.map _ hr.1 hr.2,h2];try rfl
theorem fM.rs(S:fM ρ N σ τ)(hg:cQ σ)(hg':cQ τ)(ho:cX (cJ N) σ):∀v,0≤v→v<N→rs τ (ρ v)=b9 ρ (rs σ v):=by
 obtain⟨rk,B,G⟩:=hg.rs
 obtain⟨rk',B',G'⟩:=hg'.rs
 refine fun v=>G.ind (p:=fun v=>0≤v→v<N→AW.rs τ (ρ v)=b9 ρ (AW.rs σ v)) (fun v h h0 h1=>?_) (fun v u h ih h0 h1=>?_) v
 · rw[G.free h,a9G,G'.free (by rw[S.map v h0 h1,h];try rfl)]
 · rw[G.bound h,aNX,G'.bound (u:=b9 ρ u) (by rw[S.map v h0 h1,h];try rfl),JD]
   refine pI u fun w hw=>?_
   have:=(ho v u h).2.2 w hw
   exact ih w hw this.1 this.2
theorem fM.rsT(S:fM ρ N σ τ)(hg:cQ σ)(hg':cQ τ)(ho:cX (cJ N) σ){t:Tm}(ht:cJ N t):(b9 ρ t).aM (AW.rs τ)=b9 ρ (t.aM (AW.rs σ)):=by
 rw[JD,aNX]
 exact pI t fun v hv=>S.rs hg hg' ho v (ht.2.2 v hv).1 (ht.2.2 v hv).2
theorem fM.mem(S:fM ρ N σ τ){t:Tm}(ht:cJ N t){n:Int}(h0:0≤n)(h1:n<N):ρ n∈(b9 ρ t).vl↔n∈t.vl:=by
 rw[bCV]
 constructor
 · rintro⟨v,hv,e⟩
   rw[S.inj n v h0 h1 (ht.2.2 v hv).1 (ht.2.2 v hv).2 e];exact hv
 · exact fun h=>⟨n,h,rfl⟩
theorem fM.set(S:fM ρ N σ τ){n:Int}(h0:0≤n)(h1:n<N)(t:Tm):fM ρ N (σ.set n t) (τ.set (ρ n) (b9 ρ t)):=by
 refine⟨S.inj,fun v hv0 hv1=>?_⟩
 unfold Sub.set
 by_cases h:v=n
 · subst h;simp
 · rw[aE (fun e=>h (S.inj v n hv0 hv1 h0 h1 e)),aE h,S.map v hv0 hv1]
theorem fM.kH(S:fM ρ N σ τ)(hg:cQ σ)(hg':cQ τ)(ho:cX (cJ N) σ){n:Int}(h0:0≤n)(h1:n<N){t:Tm}(ht:cJ N t){r:Bool}{σ':Sub}{tr:List Int}(h:kH σ n t=(r,σ',tr)) :
 ∃τ',AW.kH τ (ρ n) (b9 ρ t)=(r,τ',tr.map ρ)∧fM ρ N σ' τ':=by
 obtain⟨rk,B,G⟩:=hg.rs
 have e:=S.mem (G.UD ho ht) h0 h1
 rw[←S.rsT hg hg' ho ht] at e
 unfold AW.kH at h ⊢
 by_cases hm:n∈(t.aM (AW.rs σ)).vl
 · rw[aG hm] at h
   rw[aG (e.2 hm)]
   cases h
   exact⟨τ,rfl,S⟩
 · rw[aE hm] at h
   rw[aE (fun h=>hm (e.1 h))]
   cases h
   exact⟨_,rfl,S.set h0 h1 t⟩
theorem aMJ{a b:Tm}(ha:a.k≠1)(hb:b.k≠1):vR (b9 ρ a) (b9 ρ b)=vR a b:=by
 obtain⟨k,n,s,ts⟩:=a
 obtain⟨k',n',s',ts'⟩:=b
 simp only[Tm.k] at ha hb
 rw[x6 ρ ha,x6 ρ hb,wK,uG,uG]
 simp only[Tm.k,Tm.n,Tm.s,Tm.ts,aF]
theorem fM.aSI(S:fM ρ N σ τ)(hg:cQ σ)(ho:cX (cJ N) σ){t:Tm}(ht:cJ N t):AW.wk τ (b9 ρ t)=b9 ρ (AW.wk σ t):=by
 obtain⟨rk,B,G⟩:=hg.rs
 obtain⟨f,h⟩:=G.wk t
 exact(S.wk ho h ht).wk
theorem bCK(ρ:Int→Int)(N:Int):∀g:Nat,(∀(σ τ:Sub) (a b:Tm) (r:Bool) (σ':Sub) (tr:List Int),cQ σ→cQ τ→cX (cJ N) σ→cJ N a→cJ N b→fM ρ N σ τ→dH g σ a b=some (r,σ',tr)→∃τ',dH g τ (b9 ρ a) (b9 ρ b)=some (r,τ',tr.map ρ)∧fM ρ N σ' τ') ∧
 (∀(xs ys:List Tm) (σ τ:Sub) (r:Bool) (σ':Sub) (tr:List Int),cQ σ→cQ τ→cX (cJ N) σ→(∀x∈xs,cJ N x)→(∀y∈ys,cJ N y)→fM ρ N σ τ→dZ g σ xs ys=some (r,σ',tr)→∃τ',dZ g τ (xs.map (b9 ρ)) (ys.map (b9 ρ))=some (r,τ',tr.map ρ)∧fM ρ N σ' τ'):=by
 intro g
 induction g with
 | zero=>
  refine⟨fun σ τ a b r σ' tr _ _ _ _ _ _ h=>(by simp only[dH] at h;cases h),?_⟩
  intro xs ys σ τ r σ' tr _ _ _ _ _ S h
  match xs,ys with
  | [],_=>simp only[dZ,Option.some.injEq,Prod.mk.injEq] at h;obtain⟨rfl,rfl,rfl⟩:=h;exact⟨τ,by simp only[aY,dZ],S⟩
  | x::xs,[]=>simp only[dZ,Option.some.injEq,Prod.mk.injEq] at h;obtain⟨rfl,rfl,rfl⟩:=h;exact⟨τ,by simp only[bA,aY,dZ],S⟩
  | x::xs,y::ys=>simp only[dZ,dH] at h;cases h
 | succ g ih=>
  have one:∀(σ τ:Sub) (a b:Tm) (r:Bool) (σ':Sub) (tr:List Int),cQ σ→cQ τ→cX (cJ N) σ→cJ N a→cJ N b→fM ρ N σ τ→dH (g+1) σ a b=some (r,σ',tr)→∃τ',dH (g+1) τ (b9 ρ a) (b9 ρ b)=some (r,τ',tr.map ρ)∧fM ρ N σ' τ':=by
   intro σ τ a b r σ' tr hg hg' ho ha hb S h
   obtain⟨rk,B,G⟩:=hg.rs
   obtain⟨fa,wa⟩:=G.wk a
   obtain⟨fb,wb⟩:=G.wk b
   have oa:=wa.all (p:=cJ N) ho ha
   have ob:=wb.all (p:=cJ N) ho hb
   have ea:=S.aSI hg ho ha
   have eb:=S.aSI hg ho hb
   have h:=O3 h
   generalize AW.wk σ a=a1 at *
   generalize AW.wk σ b=b1 at *
   rw[dH,ea,eb,AC,AC]
   have rng:∀ {t:Tm},cJ N t→t.k=1→0≤t.n∧t.n<N:=fun ht hk=>ht.2.2 _ (by rw[Tm.GM hk];simp)
   have nn:∀ {t:Tm},t.k=1→(b9 ρ t).n=ρ t.n:=fun hk=>by rw[AD ρ hk];try rfl
   rcases h with ⟨h1,h2,h3,rfl,rfl,rfl⟩ | ⟨h1,h2,h3⟩ | ⟨h1,h2,h3⟩ | ⟨h1,h2,h3,h4⟩ | ⟨h1,h2,h3,rfl,rfl,rfl⟩
   · exact⟨τ,by rw[aG ⟨h1,h2,by rw[nn h1,nn h2,h3]⟩];try rfl,S⟩
   · have ra:=rng oa h1
     obtain⟨τ',e,S'⟩:=S.kH hg hg' ho ra.1 ra.2 ob h3
     refine⟨τ',?_,S'⟩
     rw[aE,aG h1,nn h1,e]
     rintro⟨_,h5,h6⟩
     have rb:=rng ob h5
     rw[nn h1,nn h5] at h6
     exact h2 ⟨h5,S.inj _ _ ra.1 ra.2 rb.1 rb.2 h6⟩
   · have rb:=rng ob h2
     obtain⟨τ',e,S'⟩:=S.kH hg hg' ho rb.1 rb.2 oa h3
     refine⟨τ',?_,S'⟩
     rw[aE (fun h=>h1 h.1),aE h1,aG h2,nn h2,e]
   · obtain⟨τ',e,S'⟩:=ih.2 a1.ts b1.ts σ τ r σ' tr hg hg' ho (NI N a1 h1 oa) (NI N b1 h2 ob) S h4
     refine⟨τ',?_,S'⟩
     rw[aE (fun h=>h1 h.1),aE h1,aE h2,aG (by rw[aMJ h1 h2];exact h3),FP ρ h1,FP ρ h2]
     exact e
   · refine⟨τ,?_,S⟩
     rw[aE (fun h=>h1 h.1),aE h1,aE h2,aE (by rw[aMJ h1 h2,h3];simp)]
     try rfl
  refine⟨one,?_⟩
  intro xs
  induction xs with
  | nil=>
   intro ys σ τ r σ' tr _ _ _ _ _ S h
   simp only[dZ,Option.some.injEq,Prod.mk.injEq] at h;obtain⟨rfl,rfl,rfl⟩:=h;exact⟨τ,by simp only[aY,dZ],S⟩
  | cons x xs ihx=>
   intro ys σ τ r σ' tr hg hg' ho hx hy S h
   cases ys with
   | nil=>simp only[dZ,Option.some.injEq,Prod.mk.injEq] at h;obtain⟨rfl,rfl,rfl⟩:=h;exact⟨τ,by simp only[bA,aY,dZ],S⟩
   | cons y ys=>
    rw[dZ] at h
    simp only[bA]
    rw[dZ]
    cases hu:dH (g+1) σ x y with
    | none=>rw[hu] at h;cases h
    | some p=>
     obtain⟨r1,σ1,tr1⟩:=p
     rw[hu] at h
     obtain⟨τ1,e1,S1⟩:=one σ τ x y r1 σ1 tr1 hg hg' ho (hx x (by simp)) (hy y (by simp)) S hu
     rw[e1]
     cases r1 with
     | false=>
      simp only[Option.some.injEq,Prod.mk.injEq] at h ⊢
      obtain⟨rfl,rfl,rfl⟩:=h
      exact⟨τ1,⟨rfl,rfl,rfl⟩,S1⟩
     | true=>
      simp only at h ⊢
      cases hu2:dZ (g+1) σ1 xs ys with
      | none=>rw[hu2] at h;cases h
      | some p2=>
       obtain⟨r2,σ2,tr2⟩:=p2
       rw[hu2] at h
       simp only[Option.some.injEq,Prod.mk.injEq] at h
       obtain⟨rfl,rfl,rfl⟩:=h
       have U1:=yG hg hu
       have U1':=yG hg' e1
       have ho1:=(O5 (NI N) (g+1)).1 σ x y true σ1 tr1 hg hu ho (hx x (by simp)) (hy y (by simp))
       obtain⟨τ2,e2,S2⟩:=ihx ys σ1 τ1 r2 σ2 tr2 U1.gY U1'.gY ho1 (fun z hz=>hx z (by simp [hz])) (fun z hz=>hy z (by simp [hz])) S1 hu2
       rw[e2]
       exact⟨τ2,by simp only[o7],S2⟩
theorem fM.jN(S:fM ρ N σ τ)(hg:cQ σ)(hg':cQ τ)(ho:cX (cJ N) σ){a b:Tm}(ha:cJ N a)(hb:cJ N b){r:Bool}{σ':Sub}{tr:List Int}{g:Nat}(h:dH g σ a b=some (r,σ',tr)) :
 ∃τ',AW.jN τ (b9 ρ a) (b9 ρ b)=(r,τ',tr.map ρ)∧fM ρ N σ' τ'∧cQ τ':=by
 obtain⟨τ',e,S'⟩:=(bCK ρ N g).1 σ τ a b r σ' tr hg hg' ho ha hb S h
 exact⟨τ',aR5 e,S',(yG hg' e).gY⟩
end
end Go.AW
namespace Go.AW
open Go.Proofs.Tryz
def kA(n:Int):Prop:= -999≤n∧n≤999
theorem aT2(s:ByteArray)(a b:Int)(ha:kA a)(hb:kA b):kA (sF s a b).1:=by
 unfold sF kA
 split
 · exact UV _
 split
 · exact UV _
 split
 · exact UV _
 split
 · simp
 rename_i h0
 split
 · exact aLP a b ha hb h0
 · exact tdiv_le a b ha
theorem aU3{f:Int→Int→Int×Int}{x y:Int×Int}(h:kA (f x.1 y.1).1):kA (both f x y).1:=by
 unfold both kA
 split
 · simp
 split
 · simp
 · exact h
theorem Tm.vO{N:Int}:∀t:Tm,cJ N t→kA t.ev.1:=by
 intro t
 induction t using Tm.ind with
 | h k n s ts ih=>
  intro h
  obtain⟨h1,h2⟩:=h.all
  rw[Tm.zH]
  split
  · rename_i hk;exact h1 hk
  split
  · simp [kA]
  split
  · match ts,h2,ih with
    | [],_,_=>simp [two,kA]
    | [x],_,_=>simp [two,kA]
    | [x,y],h2,ih=>exact aU3 (aT2 _ _ _ (ih x (by simp) (h2 x (by simp))) (ih y (by simp) (h2 y (by simp))))
    | x::y::z::l,_,_=>simp [two,kA]
  · simp [kA]
theorem W1{ts:List Tm}(h:(ts.length:Int)=2):∃x y,ts= [x,y]:=by
 match ts,h with
 | [x,y],_=>exact⟨x,y,rfl⟩
 | [],h=>simp at h
 | [x],h=>simp at h
 | x::y::z::l,h=>simp at h;omega
abbrev yB:=zi aW (zi cF (zi cW (zi cA (zi bR pP))))
theorem LI{N:Int}:∀(t:Tm) (st:aB),cJ N t→aD prog 341 [t.av] st (fun r st'=>r=.tup [.int .i64 t.ev.1,.int .i64 t.ev.2]∧st'=st)
 | .mk k n s ts,st,hok=>by
  obtain⟨h1,h2⟩:=hok.all
  have IH:=fun(x:Tm) (hx:x∈ts) st=>LI x st (h2 x hx)
  rw[Tm.zH]
  simp only[aX]
  refine wF [1000000] 1 func341 ntmps341 rfl rfl ?_
  intro _
  simp only[aA,seval,yB]
  refine aP (fun hk=>?_) (fun hk=>?_)
  · simp only[aA,seval,yB]
    simp only[bK] at hk
    simp [hk]
  simp only[dF] at hk
  rw[aE hk]
  simp only[aA,seval,yB]
  refine aP (fun hk1=>?_) (fun hk1=>?_)
  · simp only[aA,seval]
    simp only[bK] at hk1
    simp [hk1]
  simp only[dF] at hk1
  rw[aE hk1]
  simp only[aF,aA,seval,yB]
  have hty:∀s0:aB,ts.length≠2∨gB q9 s=false→(if gB q9 s=true then two (sF s) (ts.map Tm.ev) else(0,3))=((0:Int),(3:Int)):=fun _ h=>by
   split
   · rename_i h3
     rcases h with h | h
     · match ts,h with
       | [],_=>rfl
       | [x],_=>rfl
       | [x,y],h=>simp at h
       | x::y::z::l,_=>rfl
     · rw[h] at h3;cases h3
   · rfl
  refine cT (fun h=>?_) (fun h=>?_)
  case refine_2=>
   simp only[h,aA,seval]
   rw[hty st (.inl (by simp at h;omega))]
  simp only[h,aA,seval,yB]
  refine(QN q9 s _).to ?_
  simp only[aA,seval]
  refine aP (fun h3=>?_) (fun h3=>?_)
  · simp only[aA,seval]
    rw[hty st (.inr (by simpa [gB] using h3))]
  have hin:gB q9 s=true:=by simpa [gB] using h3
  rw[aG hin]
  clear hty
  obtain⟨x,y,rfl⟩:=W1 (by simpa using h)
  have dR:c8 prog 34 (.slice [x.av,y.av]) (.int .i64 0)=some (.pptr x.av):=bH (av:=Tm.av) (l:=[x,y]) (i:=0) bQ rfl (aN x)
  have gN:c8 prog 34 (.slice [x.av,y.av]) (.int .i64 1)=some (.pptr y.av):=bH (av:=Tm.av) (l:=[x,y]) (i:=1) bQ rfl (aN y)
  have hx:=Tm.vO x (h2 x (by simp))
  have hy:=Tm.vO y (h2 y (by simp))
  have IHx:=fun st=>IH x (by simp) st
  have IHy:=fun st=>IH y (by simp) st
  simp only[dR,a7,aN,aA,↓aS,seval,yB]
  refine(IHx _).to ?_
  simp only[two,both]
  generalize x.ev.1=a at *
  generalize x.ev.2=ca at *
  generalize y.ev.1=b at *
  generalize y.ev.2=cb at *
  simp only[aA,seval]
  refine aP (fun h4=>?_) (fun h4=>?_)
  · simp only[aA,seval]
    have h4':ca≠0:=by simpa using h4
    rw[aG h4']
  have h4':ca=0:=by simpa using h4
  subst h4'
  rw[aE (by simp)]
  simp only[gN,a7,aN,aA,seval,yB]
  refine(IHy _).to ?_
  simp only[aA,seval]
  refine aP (fun h5=>?_) (fun h5=>?_)
  · simp only[aA,seval]
    have h5':cb≠0:=by simpa using h5
    rw[aG h5']
  have h5':cb=0:=by simpa using h5
  subst h5'
  rw[aE (by simp)]
  unfold kA at hx hy
  have hmul: -998001≤a*b∧a*b≤998001:=by
   have h6:(a*b).natAbs≤998001:=by
    rw[Int.natAbs_mul]
    have:=KR (show a.natAbs≤999 by omega) (show b.natAbs≤999 by omega)
    omega
   omega
  have hw1:=bF (n:=a+b)
  have hw2:=bF (n:=a - b)
  have hw3:=bF (n:=a*b)
  have hrg:∀(v:Int) (st':aB),aD prog 110 [.int .i64 v,.int .i64 (-999),.int .i64 999] st' (fun r s'=>r=.bool (decide (jH v=(v,0)))∧s'=st'):=fun v st'=>by
   refine(BP v (-999) 999 st').mono ?_
   rintro _ _ ⟨rfl,rfl⟩
   refine⟨?_,rfl⟩
   congr 1
   unfold jH
   split
   · rename_i h;simp [h.1,h.2]
   · rename_i h
     rw[show(decide (((0:Int),(5:Int))=(v,0)))=false from d5 (by simp)]
     simp only[Bool.and_eq_false_iff,dF]
     omega
  have hrn:∀v,jH v≠(v,0)→jH v=(0,5):=fun v h=>by
   unfold jH at h ⊢
   split
   · rename_i h';rw[aG h'] at h;exact absurd rfl h
   · rfl
  unfold sF
  simp only[aA,seval,yB]
  refine aP (fun h6=>?_) (fun h6=>?_)
  · simp only[hw1,aA,seval]
    rw[aG (by simpa using h6)]
    refine(hrg (a+b) _).to ?_
    simp only[aA,seval]
    refine aP (fun h8=>?_) (fun h8=>?_)
    · simp only[aA,seval]
      rw[hrn _ (by simpa using h8)]
    · simp only[aA,seval]
      rw[show jH (a+b)=(a+b,0) by simpa using h8]
  rw[aE (by simpa using h6)]
  simp only[aA,seval]
  refine aP (fun h7=>?_) (fun h7=>?_)
  · simp only[hw2,aA,seval]
    rw[aG (by simpa using h7)]
    refine(hrg (a - b) _).to ?_
    simp only[aA,seval]
    refine aP (fun h8=>?_) (fun h8=>?_)
    · simp only[aA,seval]
      rw[hrn _ (by simpa using h8)]
    · simp only[aA,seval]
      rw[show jH (a - b)=(a - b,0) by simpa using h8]
  rw[aE (by simpa using h7)]
  simp only[aA,seval]
  refine aP (fun h9=>?_) (fun h9=>?_)
  · simp only[hw3,aA,seval]
    rw[aG (by simpa using h9)]
    refine(hrg (a*b) _).to ?_
    simp only[aA,seval]
    refine aP (fun h8=>?_) (fun h8=>?_)
    · simp only[aA,seval]
      rw[hrn _ (by simpa using h8)]
    · simp only[aA,seval]
      rw[show jH (a*b)=(a*b,0) by simpa using h8]
  rw[aE (by simpa using h9)]
  simp only[aA,seval]
  refine aP (fun h0=>?_) (fun h0=>?_)
  · simp only[aA,seval]
    rw[aG (by simpa using h0)]
  have h0':b≠0:=by simpa using h0
  rw[aE h0']
  have hq:=tdiv_le a b hx
  have hr:=OJ a b h0'
  have hf:=aLP a b hx hy h0'
  have hfe:=a25 a b h0'
  have hw4:=bF (n:=a.tdiv b)
  have hw5:=bF (n:=a.tmod b+b)
  have a4U:jH (a.tdiv b)=(a.tdiv b,0):=by unfold jH;rw[aG hq]
  have a4V:jH (rC a b)=(rC a b,0):=by unfold jH;rw[aG hf]
  simp only[hw4,h0',aA,seval,yB]
  refine aP (fun h10=>?_) (fun h10=>?_)
  · simp only[hw5,h0',hfe,aA,seval]
    rw[aG (by simpa using h10)]
    refine(hrg (rC a b) _).to ?_
    have hd:decide (jH (rC a b)=(rC a b,0))=true:=by rw[a4V];simp
    simp only[hd,aA,seval]
  · simp only[aA,seval]
    rw[aE (by simpa using h10)]
    refine(hrg (a.tdiv b) _).to ?_
    have hd:decide (jH (a.tdiv b)=(a.tdiv b,0))=true:=by rw[a4U];simp
    simp only[hd,aA,seval]
termination_by t=>SizeOf.sizeOf t
decreasing_by have:=List.sizeOf_lt_of_mem hx;simp only[Tm.mk.sizeOf_spec];omega
theorem QY(n:Int)(st:aB):aD prog 356 [.int .i64 n] st (fun r st'=>r=.tup [.int .i64 (jH n).1,.int .i64 (jH n).2]∧st'=st):=by
 refine wF [1000000] 1 func356 ntmps356 rfl rfl ?_
 intro _
 simp only[aA,seval]
 refine cT (fun h=>?_) (fun h=>?_)
 · simp only[h,aA,seval]
   have h1:¬n< -999:=by simpa using h
   refine aP (fun h2=>?_) (fun h2=>?_)
   · simp only[aA,seval]
     have h2':999<n:=by simpa using h2
     unfold jH
     rw[aE (by omega)]
   · simp only[aA,seval]
     have h2':¬ 999<n:=by simpa using h2
     unfold jH
     rw[aG (by omega)]
 · simp only[h,aA,seval]
   have h1:n< -999:=by simpa using h
   unfold jH
   rw[aE (by omega)]
abbrev bAZ:=zi aW cF
theorem aXW(a b:Int)(ha:kA a)(hb:kA b)(h0:b≠0)(st:aB):aD prog 357 [.int .i64 a,.int .i64 b] st (fun r st'=>r=.int .i64 (rC a b)∧st'=st):=by
 have hl:=OJ a b h0
 unfold kA at ha hb
 have hw:=bF (n:=a.tmod b+b)
 refine wF [1000000] 2 func357 ntmps357 rfl rfl ?_
 intro _
 simp only[h0,aA,seval]
 have hf:rC a b=if a.tmod b≠0∧decide (a.tmod b<0)≠decide (b<0) then a.tmod b+b else a.tmod b:=rfl
 rw[hf]
 clear hf
 generalize hm:a.tmod b=m at *
 refine cT (fun h=>?_) (fun h=>?_)
 · have h':m≠0:=by simpa using h
   simp only[h,aA,seval,bAZ]
   refine aP (fun h2=>?_) (fun h2=>?_)
   · simp only[hw,aA,seval]
     rw[aG ⟨h',by simpa using h2⟩]
   · simp only[aA,seval]
     rw[aE (by intro h3;exact h3.2 (by simpa using h2))]
 · have h':m=0:=by simpa using h
   simp only[h,aA,seval]
   rw[aE (by intro h3;exact h3.1 h')]
theorem aXU(a b:Int)(ha:kA a)(hb:kA b)(h0:b≠0)(st:aB):aD prog 358 [.int .i64 a,.int .i64 b] st (fun r st'=>r=.int .i64 (a.tdiv b)∧st'=st):=by
 have hl:=tdiv_le a b ha
 have hw:=bF (n:=a.tdiv b)
 refine wF [1000000] 2 func358 ntmps358 rfl rfl ?_
 intro _
 simp only[h0,hw,aA,seval]
theorem Z8(s:ByteArray)(a b:Int)(hx:kA a)(hy:kA b)(st:aB):aD prog 331 [.str s,.int .i64 a,.int .i64 b] st (fun r st'=>r=.tup [.int .i64 (sF s a b).1,.int .i64 (sF s a b).2]∧st'=st):=by
 have hMod:=fun h0=>aXW a b hx hy h0
 have hDiv:=fun h0=>aXU a b hx hy h0
 unfold kA at hx hy
 have hmul: -998001≤a*b∧a*b≤998001:=by
  have h6:(a*b).natAbs≤998001:=by
   rw[Int.natAbs_mul]
   have:=KR (show a.natAbs≤999 by omega) (show b.natAbs≤999 by omega)
   omega
  omega
 have hw1:=bF (n:=a+b)
 have hw2:=bF (n:=a - b)
 have hw3:=bF (n:=a*b)
 unfold sF
 refine wF [1000000] 3 func331 ntmps331 rfl rfl ?_
 intro _
 simp only[aA,seval]
 refine aP (fun h6=>?_) (fun h6=>?_)
 · simp only[hw1,aA,seval]
   rw[aG (by simpa using h6)]
   refine(QY _ _).to ?_
   simp only[aA,seval]
 rw[aE (by simpa using h6)]
 simp only[aA,seval]
 refine aP (fun h7=>?_) (fun h7=>?_)
 · simp only[hw2,aA,seval]
   rw[aG (by simpa using h7)]
   refine(QY _ _).to ?_
   simp only[aA,seval]
 rw[aE (by simpa using h7)]
 simp only[aA,seval]
 refine aP (fun h9=>?_) (fun h9=>?_)
 · simp only[hw3,aA,seval]
   rw[aG (by simpa using h9)]
   refine(QY _ _).to ?_
   simp only[aA,seval]
 rw[aE (by simpa using h9)]
 simp only[aA,seval]
 refine aP (fun h0=>?_) (fun h0=>?_)
 · simp only[aA,seval]
   rw[aG (by simpa using h0)]
 have h0':b≠0:=by simpa using h0
 rw[aE h0']
 simp only[aA,seval]
 refine aP (fun h10=>?_) (fun h10=>?_)
 · simp only[aA,seval]
   rw[aG (by simpa using h10)]
   refine(hMod h0' _).to ?_
   simp only[aA,seval]
 · simp only[aA,seval]
   rw[aE (by simpa using h10)]
   refine(hDiv h0' _).to ?_
   simp only[aA,seval]
theorem LA(s:ByteArray):gB q9 s=decide (cC s=1∨cC s=2):=by
 unfold gB q9 cC
 simp only[A4,List.any_nil,yK]
 by_cases h1:s=⟨#[43]⟩
 · subst h1;decide
 by_cases h2:s=⟨#[45]⟩
 · subst h2;decide
 by_cases h3:s=⟨#[42]⟩
 · subst h3;decide
 by_cases h4:s=⟨#[47,47]⟩
 · subst h4;decide
 by_cases h5:s=⟨#[109,111,100]⟩
 · subst h5;decide
 simp only[h1,h2,h3,h4,h5,bP,yK,BS]
 cases (decide (s=⟨#[61]⟩)||decide (s=⟨#[92,61]⟩)||decide (s=⟨#[61,61]⟩)||decide (s=⟨#[60]⟩)||decide (s=⟨#[62]⟩)||decide (s=⟨#[61,60]⟩)||decide (s=⟨#[62,61]⟩)||decide (s=⟨#[61,58,61]⟩)||decide (s=⟨#[105,115]⟩))<;>rfl
abbrev s8:=zi aW (zi cW (zi cA bR))
theorem LR{N:Int}:∀(t:Tm) (st:aB),cJ N t→aD prog 292 [t.av] st (fun r st'=>r=.tup [.int .i64 t.ev.1,.int .i64 t.ev.2]∧st'=st)
 | .mk k n s ts,st,hok=>by
  obtain⟨h1,h2⟩:=hok.all
  have IH:=fun(x:Tm) (hx:x∈ts) st=>LR x st (h2 x hx)
  rw[Tm.zH]
  simp only[aX]
  refine wF [1000000] 1 func292 ntmps292 rfl rfl ?_
  intro _
  simp only[aA,seval,s8]
  refine aP (fun hk1=>?_) (fun hk1=>?_)
  · simp only[aA,seval]
    simp only[bK] at hk1
    rw[aE (by omega),aG hk1]
  simp only[dF] at hk1
  rw[aE hk1]
  simp only[aA,seval]
  refine aP (fun hk=>?_) (fun hk=>?_)
  · simp only[aA,seval,s8]
    simp only[bK] at hk
    simp [hk]
  simp only[dF] at hk
  rw[aE hk]
  simp only[aA,seval,s8]
  refine(xA s _).to ?_
  simp only[aF,aA,seval,s8]
  have hty:∀s0:aB,ts.length≠2∨gB q9 s=false→(if gB q9 s=true then two (sF s) (ts.map Tm.ev) else(0,3))=((0:Int),(3:Int)):=fun _ h=>by
   split
   · rename_i h3
     rcases h with h | h
     · match ts,h with
       | [],_=>rfl
       | [x],_=>rfl
       | [x,y],h=>simp at h
       | x::y::z::l,_=>rfl
     · rw[h] at h3;cases h3
   · rfl
  refine cT (fun h=>?_) (fun h=>?_)
  case refine_2=>
   simp only[h,aA,seval]
   rw[hty st (.inl (by simp at h;omega))]
  simp only[h,aA,seval]
  have IM:gB q9 s=false→cC s≠1∧cC s≠2:=fun h=>by
   rw[LA] at h
   have:=of_decide_eq_false h
   omega
  refine cT (fun h3=>?_) (fun h3=>?_)
  · simp only[h3,aA,seval]
    have h3':cC s≠1:=by simp at h3;omega
    refine aP (fun h6=>?_) (fun h6=>?_)
    · have h6':cC s≠2:=by simp at h6;omega
      simp only[aA,seval]
      rw[hty st (.inr (by rw[LA];simp [h3',h6']))]
    · have h6':cC s=2:=by simp at h6;omega
      have hin:gB q9 s=true:=by rw[LA];simp [h6']
      simp only[aA,seval,s8]
      rw[aG hin]
      clear hty IM
      obtain⟨x,y,rfl⟩:=W1 (by simpa using h)
      have dR:c8 prog 34 (.slice [x.av,y.av]) (.int .i64 0)=some (.pptr x.av):=bH (av:=Tm.av) (l:=[x,y]) (i:=0) bQ rfl (aN x)
      have gN:c8 prog 34 (.slice [x.av,y.av]) (.int .i64 1)=some (.pptr y.av):=bH (av:=Tm.av) (l:=[x,y]) (i:=1) bQ rfl (aN y)
      have hx:=Tm.vO x (h2 x (by simp))
      have hy:=Tm.vO y (h2 y (by simp))
      have IHx:=fun st=>IH x (by simp) st
      have IHy:=fun st=>IH y (by simp) st
      simp only[bA,aY,two,both]
      simp only[dR,a7,aN,aA,↓aS,seval,s8]
      refine(IHx _).to ?_
      generalize x.ev.1=a at *
      generalize x.ev.2=ca at *
      generalize y.ev.1=b at *
      generalize y.ev.2=cb at *
      simp only[aA,seval]
      refine aP (fun h4=>?_) (fun h4=>?_)
      · simp only[aA,seval]
        have h4':ca≠0:=by simpa using h4
        rw[aG h4']
      have h4':ca=0:=by simpa using h4
      subst h4'
      rw[aE (by simp)]
      simp only[gN,a7,aN,aA,seval,s8]
      refine(IHy _).to ?_
      simp only[aA,seval]
      refine aP (fun h5=>?_) (fun h5=>?_)
      · simp only[aA,seval]
        have h5':cb≠0:=by simpa using h5
        rw[aG h5']
      have h5':cb=0:=by simpa using h5
      subst h5'
      rw[aE (by simp)]
      simp only[aA,seval,s8]
      refine(Z8 s a b hx hy _).to ?_
      simp only[aA,seval]
  · have h3':cC s=1:=by simp at h3;omega
    have hin:gB q9 s=true:=by rw[LA];simp [h3']
    simp only[h3,aA,seval,s8]
    rw[aG hin]
    clear hty IM
    obtain⟨x,y,rfl⟩:=W1 (by simpa using h)
    have dR:c8 prog 34 (.slice [x.av,y.av]) (.int .i64 0)=some (.pptr x.av):=bH (av:=Tm.av) (l:=[x,y]) (i:=0) bQ rfl (aN x)
    have gN:c8 prog 34 (.slice [x.av,y.av]) (.int .i64 1)=some (.pptr y.av):=bH (av:=Tm.av) (l:=[x,y]) (i:=1) bQ rfl (aN y)
    have hx:=Tm.vO x (h2 x (by simp))
    have hy:=Tm.vO y (h2 y (by simp))
    have IHx:=fun st=>IH x (by simp) st
    have IHy:=fun st=>IH y (by simp) st
    simp only[bA,aY,two,both]
    simp only[dR,a7,aN,aA,↓aS,seval,s8]
    refine(IHx _).to ?_
    generalize x.ev.1=a at *
    generalize x.ev.2=ca at *
    generalize y.ev.1=b at *
    generalize y.ev.2=cb at *
    simp only[aA,seval]
    refine aP (fun h4=>?_) (fun h4=>?_)
    · simp only[aA,seval]
      have h4':ca≠0:=by simpa using h4
      rw[aG h4']
    have h4':ca=0:=by simpa using h4
    subst h4'
    rw[aE (by simp)]
    simp only[gN,a7,aN,aA,seval,s8]
    refine(IHy _).to ?_
    simp only[aA,seval]
    refine aP (fun h5=>?_) (fun h5=>?_)
    · simp only[aA,seval]
      have h5':cb≠0:=by simpa using h5
      rw[aG h5']
    have h5':cb=0:=by simpa using h5
    subst h5'
    rw[aE (by simp)]
    simp only[aA,seval,s8]
    refine(Z8 s a b hx hy _).to ?_
    simp only[aA,seval]
termination_by t=>SizeOf.sizeOf t
decreasing_by have:=List.sizeOf_lt_of_mem hx;simp only[Tm.mk.sizeOf_spec];omega
abbrev aQ3:=zi aW fJ
theorem ZF(l:List Int)(v:Int)(st:aB):aD prog 65 [.slice (l.map iv),.int .i64 v] st (fun r st'=>r=.int .i64 (eC v l 0)∧st'=st):=by
 refine wF [] 2 func65 ntmps65 rfl rfl ?_
 simp only[eM,AV.fits,eS,aF]
 intro ⟨hl,_⟩
 simp only[aF,aA,seval,aQ3]
 refine dX (σ:=Unit) [] [0,1,7] l (fun i _=>eC v l 0=eC v (l.drop i) i) (fun i _=>[(8,.int .i64 i)]) (fun _ _=>st) (by decide +kernel) ⟨(),rfl,aO.mk (by simp only[aA,↓aS,seval])⟩ (fun i x _ hx hlt bL hdr hinv=>?_) (fun _ hge hinv=>?_)
 case refine_2=>
  simp only[hge,aA,seval]
  rw[hinv,kB]
  try rfl
 rw[hdr,eC] at hinv
 have hw:=bF (n:=(i:Int)+1)
 simp only[bL,bH (av:=iv) fO hx rfl,aA,seval,aQ3]
 refine aP (fun h=>?_) (fun h=>?_)
 · simp only[bK] at h
   rw[aG h] at hinv
   simp only[hinv,aA,seval]
 · simp only[dF] at h
   rw[aE h] at hinv
   simp only[aA,seval]
   exact⟨(),by rw[hinv],aO.mk (by simp only[hw,aA,seval])⟩
theorem aVF(l:List Int)(v:Int)(st:aB):aD prog 229 [.slice (l.map iv),.int .i64 v] st (fun r st'=>r=.bool (decide (v∈l))∧st'=st):=by
 refine wF [] 2 func229 ntmps229 rfl rfl ?_
 intro _
 simp only[aA,seval]
 refine(ZF l v st).to ?_
 simp only[aNG v l 0 (Int.le_refl 0),aA,seval]
theorem a9W{st:aB}{b:Nat}{l:List Int}{os xs:List AV}(h:Seen (bE st b (l.map iv)) d9 os xs):Seen (bE st b (l.map iv)) d9 (bS 1 b (l.map iv)::os) (.slice (l.map iv)::xs):=
 Seen.own (a8J (bO.flat (by simp [AV.flat])) (by intro e h;simp only[cB] at h;obtain⟨t,_,rfl⟩:=h;rfl)) h
def Grown(st:aB)(l:List Int)(r:AV)(st':aB):Prop:=∃b',r=bS 1 b' (l.map iv)∧st'=bE st b' (l.map iv)∧(l.map iv≠[]→st b'=none)
abbrev tB:=zi aW (zi cF (zi fJ (zi cA bR)))
theorem ZH:∀(t:Tm) (l:List Int) (b:Nat) (st:aB),(l.map iv≠[]→st b=none)→l.length+t.nodes≤1099511627776→aD prog 142 [t.av,bS 1 b (l.map iv)] (bE st b (l.map iv)) (Grown st (t.vars l))
 | .mk k n s ts,l,b,st,hb,hsz=>by
  have IH:=fun(x:Tm) (hx:x∈ts)=>ZH x
  simp only[Tm.vars]
  rw[Tm.gJ] at hsz
  refine wF [] 2 func142 ntmps142 rfl rfl ?_
  simp only[aX,eM,AV.fits,eS,aF]
  intro ⟨⟨_,_,_,hl,_⟩,_⟩
  simp only[aA,seval,tB]
  refine cT (fun h=>?_) (fun h=>?_)
  · simp only[bK] at h
    subst h
    simp only[aA,seval,tB]
    refine(aD.see (fun s=>aVF l n s) (a9W (Seen.same .nil)) rfl).to ?_
    simp only[aA,seval]
    refine aP (fun h=>?_) (fun h=>?_)
    · simp only[lJ,dF] at h
      rw[aG h]
      simp only[aA,seval,tB]
      refine eO fO t7 sQ rfl rfl (fQ rfl rfl) (by intro e h;simp only[cB] at h;obtain⟨t,_,rfl⟩:=h;rfl) hb (by simp;omega) (by simp;omega) (fun b' hb'=>?_)
      rw[show l.map iv++ [AV.int .i64 n]=(l++ [n]).map iv by simp] at hb' ⊢
      simp only[aA,seval,tB]
      refine dX (σ:=List Int×Nat) [] [4,23,24] ts (fun i p=>bT (ts.drop i) p.1=bT ts (l++ [n])∧p.1.length+bB Tm.nodes (ts.drop i)≤1099511627776∧(p.1.map iv≠[]→st p.2=none)) (fun i p=>[(1,bS 1 p.2 (p.1.map iv)),(25,.int .i64 i)]) (fun _ p=>bE st p.2 (p.1.map iv)) (by decide +kernel)
       ⟨(l++ [n],b'),⟨rfl,by simp;omega,hb'⟩,aO.mk (by simp only[aF,aA,↓aS,seval])⟩ (fun i x p hx hlt bL hdr hinv=>?_) (fun p hge hinv=>?_)
      case refine_2=>
       simp only[aF,hge,aA,seval]
       rw[←hinv.1,kB]
       exact⟨p.2,rfl,rfl,hinv.2.2⟩
      obtain⟨acc,b⟩:=p
      rw[hdr] at hinv
      obtain⟨i1,i2,i3⟩:=hinv
      simp only[bB] at i2
      have hw:=bF (n:=(i:Int)+1)
      simp only[aF,bL,bH (av:=Tm.av) bQ hx (aN x),a7,aN,aA,seval,tB]
      intro b2 hb2
      obtain⟨hn2,hne⟩:=HD hb2
      have hc2: [AV.int IntKind.i64 0,AV.int IntKind.i64 0,AV.str ⟨#[]⟩,AV.fslice []].length=4:=rfl
      try simp only[dO,CP (x:=x.av.cells) (cE x) hc2,cE,cI,fN (cE x),fG (a7 x),cU,aA,↓aS,seval,tB]
      rw[oH hne]
      refine(IH x (cH hx) acc b _ (fun h=>by rw[aB.aH _ _ (c9 (hne h))];exact i3 h) (by omega)).mono ?_
      rintro _ _ ⟨b',rfl,rfl,hb'⟩
      simp only[hw,aA,seval]
      obtain⟨hd,B2⟩:=K3 (o:=.cells x.av.cells) hn2 hb'
      have hvl:=Tm.GK x acc
      refine⟨(x.vars acc,b'),⟨i1,by simp only;omega,B2⟩,aO.drop hd (by simp only[aA,seval])⟩
    · simp only[tH,bK] at h
      rw[aE (by simp [h])]
      simp only[aA,seval,tB]
      refine dX (σ:=List Int×Nat) [] [4,23,24] ts (fun i p=>bT (ts.drop i) p.1=bT ts (l)∧p.1.length+bB Tm.nodes (ts.drop i)≤1099511627776∧(p.1.map iv≠[]→st p.2=none)) (fun i p=>[(1,bS 1 p.2 (p.1.map iv)),(25,.int .i64 i)]) (fun _ p=>bE st p.2 (p.1.map iv)) (by decide +kernel)
       ⟨(l,b),⟨rfl,by simp;omega,hb⟩,aO.mk (by simp only[aF,aA,↓aS,seval])⟩ (fun i x p hx hlt bL hdr hinv=>?_) (fun p hge hinv=>?_)
      case refine_2=>
       simp only[aF,hge,aA,seval]
       rw[←hinv.1,kB]
       exact⟨p.2,rfl,rfl,hinv.2.2⟩
      obtain⟨acc,b⟩:=p
      rw[hdr] at hinv
      obtain⟨i1,i2,i3⟩:=hinv
      simp only[bB] at i2
      have hw:=bF (n:=(i:Int)+1)
      simp only[aF,bL,bH (av:=Tm.av) bQ hx (aN x),a7,aN,aA,seval,tB]
      intro b2 hb2
      obtain⟨hn2,hne⟩:=HD hb2
      have hc2: [AV.int IntKind.i64 0,AV.int IntKind.i64 0,AV.str ⟨#[]⟩,AV.fslice []].length=4:=rfl
      try simp only[dO,CP (x:=x.av.cells) (cE x) hc2,cE,cI,fN (cE x),fG (a7 x),cU,aA,↓aS,seval,tB]
      rw[oH hne]
      refine(IH x (cH hx) acc b _ (fun h=>by rw[aB.aH _ _ (c9 (hne h))];exact i3 h) (by omega)).mono ?_
      rintro _ _ ⟨b',rfl,rfl,hb'⟩
      simp only[hw,aA,seval]
      obtain⟨hd,B2⟩:=K3 (o:=.cells x.av.cells) hn2 hb'
      have hvl:=Tm.GK x acc
      refine⟨(x.vars acc,b'),⟨i1,by simp only;omega,B2⟩,aO.drop hd (by simp only[aA,seval])⟩
  · simp only[jZ,dF] at h
    rw[aE (by simp [h])]
    simp only[h,aA,seval,tB]
    refine dX (σ:=List Int×Nat) [] [4,23,24] ts (fun i p=>bT (ts.drop i) p.1=bT ts (l)∧p.1.length+bB Tm.nodes (ts.drop i)≤1099511627776∧(p.1.map iv≠[]→st p.2=none)) (fun i p=>[(1,bS 1 p.2 (p.1.map iv)),(25,.int .i64 i)]) (fun _ p=>bE st p.2 (p.1.map iv)) (by decide +kernel)
     ⟨(l,b),⟨rfl,by simp;omega,hb⟩,aO.mk (by simp only[aF,aA,↓aS,seval])⟩ (fun i x p hx hlt bL hdr hinv=>?_) (fun p hge hinv=>?_)
    case refine_2=>
     simp only[aF,hge,aA,seval]
     rw[←hinv.1,kB]
     exact⟨p.2,rfl,rfl,hinv.2.2⟩
    obtain⟨acc,b⟩:=p
    rw[hdr] at hinv
    obtain⟨i1,i2,i3⟩:=hinv
    simp only[bB] at i2
    have hw:=bF (n:=(i:Int)+1)
    simp only[aF,bL,bH (av:=Tm.av) bQ hx (aN x),a7,aN,aA,seval,tB]
    intro b2 hb2
    obtain⟨hn2,hne⟩:=HD hb2
    have hc2: [AV.int IntKind.i64 0,AV.int IntKind.i64 0,AV.str ⟨#[]⟩,AV.fslice []].length=4:=rfl
    try simp only[dO,CP (x:=x.av.cells) (cE x) hc2,cE,cI,fN (cE x),fG (a7 x),cU,aA,↓aS,seval,tB]
    rw[oH hne]
    refine(IH x (cH hx) acc b _ (fun h=>by rw[aB.aH _ _ (c9 (hne h))];exact i3 h) (by omega)).mono ?_
    rintro _ _ ⟨b',rfl,rfl,hb'⟩
    simp only[hw,aA,seval]
    obtain⟨hd,B2⟩:=K3 (o:=.cells x.av.cells) hn2 hb'
    have hvl:=Tm.GK x acc
    refine⟨(x.vars acc,b'),⟨i1,by simp only;omega,B2⟩,aO.drop hd (by simp only[aA,seval])⟩
termination_by t=>SizeOf.sizeOf t
decreasing_by have:=List.sizeOf_lt_of_mem hx;simp only[Tm.mk.sizeOf_spec];omega
abbrev WC:=zi aW (zi fJ (zi cA bR))
theorem HP(l:List Tm)(st:aB)(hsz:bB Tm.nodes l≤1099511627776):aD prog 62 [.slice (l.map Tm.av)] st (fun r st'=>r=.slice ((bT l []).map iv)∧st'=st):=by
 refine aD.fin ?_
 refine wF [] 1 func62 ntmps62 rfl rfl ?_
 simp only[eM,AV.fits,eS,aF]
 intro ⟨hl,_⟩
 simp only[aF,aA,seval,WC]
 refine dX (σ:=List Int×Nat) [] [2,6,7] l (fun i p=>bT (l.drop i) p.1=bT l ([])∧p.1.length+bB Tm.nodes (l.drop i)≤1099511627776∧(p.1.map iv≠[]→st p.2=none)) (fun i p=>[(3,bS 1 p.2 (p.1.map iv)),(8,.int .i64 i)]) (fun _ p=>bE st p.2 (p.1.map iv)) (by decide +kernel)
  ⟨([],0),⟨rfl,by simp;omega,by simp⟩,aO.mk (by simp only[aY,iV,aA,↓aS,seval])⟩ (fun i x p hx hlt bL hdr hinv=>?_) (fun p hge hinv=>?_)
 case refine_2=>
  simp only[hge,aA,seval]
  rw[←hinv.1,kB]
  exact⟨p.2,p.1.map iv,st,rfl,hinv.2.2,by simp [AV.cD],⟨1,aNI p.1⟩,oI,rfl⟩
 obtain⟨acc,b⟩:=p
 rw[hdr] at hinv
 obtain⟨i1,i2,i3⟩:=hinv
 simp only[bB] at i2
 have hw:=bF (n:=(i:Int)+1)
 simp only[bL,bH (av:=Tm.av) bQ hx (aN x),a7,aN,aA,seval,WC]
 intro b2 hb2
 obtain⟨hn2,hne⟩:=HD hb2
 have nU:∀zs:List AV,zs.length=4→aK zs 0 x.av.cells=x.av.cells:=fun zs h=>CP (cE x) h
 try simp only[dO,nU,cE,cI,fN (cE x),fG (a7 x),cU,aA,↓aS,seval,WC]
 rw[oH hne]
 refine(ZH x acc b _ (fun h=>by rw[aB.aH _ _ (c9 (hne h))];exact i3 h) (by omega)).mono ?_
 rintro _ _ ⟨b',rfl,rfl,hb'⟩
 simp only[hw,aA,seval]
 obtain⟨hd,B2⟩:=K3 (o:=.cells x.av.cells) hn2 hb'
 have hvl:=Tm.GK x acc
 exact⟨(x.vars acc,b'),⟨i1,by simp only;omega,B2⟩,aO.drop hd (by simp only[aA,seval])⟩
abbrev JX:=zi aW (zi fJ (zi cA bR))
theorem HN:∀(t:Tm) (l:List Int) (b:Nat) (st:aB),t.wf=true→(l.map iv≠[]→st b=none)→l.length+t.nodes≤1099511627776→aD prog 221 [bS 1 b (l.map iv),t.av] (bE st b (l.map iv)) (Grown st (t.vars l))
 | .mk k n s ts,l,b,st,hwf,hb,hsz=>by
  obtain⟨hk,a50⟩:=Tm.W8 hwf
  have IH:=fun(x:Tm) (hx:x∈ts) l b st=>HN x l b st (a50 x hx)
  have haL:=BJ (w:=1) (b:=b) (l:=l.map iv) KF
  simp only[Tm.vars]
  rw[Tm.gJ] at hsz
  refine wF [] 2 func221 ntmps221 rfl rfl ?_
  simp only[aX,eM,AV.fits,eS,aF]
  intro ⟨_,⟨_,_,_,hl,_⟩⟩
  simp only[aA,seval,JX]
  refine aP (fun h=>?_) (fun h=>?_)
  · simp only[bK] at h
    obtain rfl:=hk h
    subst h
    simp only[aA,seval]
    have hnn:l.length≤1099511627776:=by omega
    refine dX (σ:=Unit) [] [0,3] l (fun i _=>∀y∈l.take i,y≠n) (fun i _=>[(5,.int .i64 i)]) (fun _ _=>bE st b (l.map iv)) (by decide +kernel) ⟨(),by simp,aO.mk (by simp only[aA,↓aS,seval])⟩ (fun i x _ hx hlt bL hdr hinv=>?_) (fun _ hge hinv=>?_)
    case refine_2=>
     rw[dS] at hinv
     have eT:n∉l:=fun h=>hinv n h rfl
     simp only[haL,aF,hge,aA,seval,JX]
     refine eO fO t7 sQ rfl rfl (fQ rfl rfl) (aNI l) hb (by simp;omega) (by simp;omega) (fun b' hb'=>?_)
     rw[show l.map iv++ [AV.int .i64 n]=(l++ [n]).map iv by simp] at hb' ⊢
     simp only[aA,seval]
     exact⟨b',by simp [bT,eT],by simp [bT,eT],by simp only[bT,eT,I3,eX];exact hb'⟩
    have hat:=YL (b:=b) (l:=l.map iv) (i:=i) (x:=iv x) fO (by rw[mA,hx];try rfl)
    obtain⟨gA,zQ⟩:=YM (st:=st) (b:=b) hx
    have hw:=bF (n:=(i:Int)+1)
    simp only[haL,aF,bL,aA,seval]
    refine D1 mixed (by decide +kernel) (by decide +kernel) ?_
    simp only[hat,gA,zQ,wR,aA,seval,JX]
    refine aP (fun h=>?_) (fun h=>?_)
    · simp only[bK] at h
      subst h
      have eT:=cH hx
      simp only[aA,seval]
      exact⟨b,by simp [bT,eT],by simp [bT,eT],by simp only[bT,eT,NF,dT];exact hb⟩
    · simp only[dF] at h
      simp only[aA,seval]
      refine⟨(),?_,aO.mk (by simp only[hw,aA,seval])⟩
      intro y hy
      rw[dY,hx] at hy
      rcases eH.1 hy with hy | hy
      · exact hinv y hy
      · simp at hy;subst hy;exact h
  · simp only[dF] at h
    rw[aE (by simp [h])]
    simp only[aA,seval]
    refine dX (σ:=List Int×Nat) [] [3,4] ts (fun i p=>bT (ts.drop i) p.1=bT ts l∧p.1.length+bB Tm.nodes (ts.drop i)≤1099511627776∧(p.1.map iv≠[]→st p.2=none)) (fun i p=>[(0,bS 1 p.2 (p.1.map iv)),(6,.int .i64 i)]) (fun _ p=>bE st p.2 (p.1.map iv)) (by decide +kernel)
     ⟨(l,b),⟨rfl,by simp;omega,hb⟩,aO.mk (by simp only[aA,↓aS,seval])⟩ (fun i x p hx hlt bL hdr hinv=>?_) (fun p hge hinv=>?_)
    case refine_2=>
     simp only[aF,hge,aA,seval,JX]
     rw[←hinv.1,kB]
     exact⟨p.2,rfl,rfl,hinv.2.2⟩
    obtain⟨acc,b⟩:=p
    rw[hdr] at hinv
    obtain⟨i1,i2,i3⟩:=hinv
    simp only[bB] at i2
    have hw:=bF (n:=(i:Int)+1)
    simp only[aF,bL,bH (av:=Tm.av) bQ hx (aN x),a7,aN,aA,seval,JX]
    refine(IH x (cH hx) acc b st i3 (by omega)).mono ?_
    rintro _ _ ⟨b',rfl,rfl,hb'⟩
    have hvl:=Tm.GK x acc
    simp only[hw,aA,seval]
    exact⟨(x.vars acc,b'),⟨i1,by simp only;omega,hb'⟩,aO.mk (by simp only[aA,seval])⟩
termination_by t=>SizeOf.sizeOf t
decreasing_by have:=List.sizeOf_lt_of_mem hx;simp only[Tm.mk.sizeOf_spec];omega
theorem YY{A C B:List AV}{n:Nat}(hA:A.length=n)(hC:C.length=4) :
 (n+4≤(A++C++B).length)∧List.take 4 (List.drop n (A++C++B))=C∧(A++C++B)[n+0]?=C[0]?:=by
 refine⟨by simp only[dN];omega,?_,(TV (A:=A) (B:=B) hA).2.2.1 C 0 (by omega)⟩
 rw[←hA,lL,DG,←hC,GV]
abbrev OkN (t:Tm):Prop:=t.j7=true∧t.nodes≤120
end Go.AW
namespace Go.AW
def oP(n:Int):Tm:=.mk 2 n ⟨#[]⟩ []
theorem a6Q{n:Int}(h:kA n):(oP n).valid=true:=by
 have ho:(oP n).j7=true:=by
  unfold oP
  rw[Tm.CH]
  simp [eF,h.1,h.2]
 rw[Tm.aSA ho]
 simp [oP,Tm.gJ,bB,Tm.xG]
def iN(b:Bool):Int:=if b=true then 0 else 1
def LY(s:ByteArray)(a b:Int):Bool:=
 if s=⟨#[60]⟩ then decide (a<b) else if s=⟨#[62]⟩ then decide (b<a) else if s=⟨#[61,60]⟩ then decide (a≤b) else if s=⟨#[62,61]⟩ then decide (b≤a) else decide (a=b)
def uR(s:ByteArray)(x:Tm):Bool:=
 if s=⟨#[118,97,114]⟩ then decide (x.k=1) else if s=⟨#[110,111,110,118,97,114]⟩ then !decide (x.k=1) else if s=⟨#[97,116,111,109]⟩ then decide (x.k=3)&&decide ((x.ts.length:Int)=0) else decide (x.k=2)
def zD(s:ByteArray)(x y:Tm):Int:=(both (fun a b=>(0,iN (LY s a b))) x.ev y.ev).2
def nO(x y:Tm):Option Tm:=if 1≤x.n∧x.n≤y.ts.length then y.ts[(x.n - 1).toNat]? else none
structure bDD (σ:Sub):Prop where
 gY:cQ σ
 j7:cX (fun t=>t.j7=true) σ
 okN:cX OkN σ
theorem YS{x y u:Tm}(h:nO x y=some u):u∈y.ts:=by
 unfold nO at h
 split at h
 · exact cH h
 · cases h
theorem Y4{s:ByteArray}{n:Nat}(h:isBuiltin s (n:Int)=true) :
 (n=2∧(gB sL s=true∨s=⟨#[61]⟩∨s=⟨#[92,61]⟩∨s=⟨#[61,61]⟩∨s=⟨#[105,115]⟩))∨(n=0∧(s=⟨#[116,114,117,101]⟩∨s=⟨#[102,97,105,108]⟩)) ∨
 (n=1∧(s=⟨#[118,97,114]⟩∨s=⟨#[110,111,110,118,97,114]⟩∨s=⟨#[97,116,111,109]⟩∨s=⟨#[105,110,116]⟩))∨(n=3∧s=⟨#[97,114,103]⟩):=by
 unfold isBuiltin at h
 simp only[cond_eq_ite] at h
 split at h
 · rename_i h1
   left
   refine⟨by simp at h;omega,?_⟩
   simp only[oZ,bK] at h1
   simp only[gB,sL,A4,List.any_nil,oZ,bK,fX,dQ]
   rcases h1 with (((((((h1 | h1) | h1) | h1) | h1) | h1) | h1) | h1) | h1<;>simp [h1]
 split at h
 · rename_i h1
   right;left
   refine⟨by simp at h;omega,?_⟩
   simpa using h1
 split at h
 · rename_i h1
   right;right;left
   refine⟨by simp at h;omega,?_⟩
   simp only[oZ,bK] at h1
   rcases h1 with ((h1 | h1) | h1) | h1<;>simp [h1]
 split at h
 · rename_i h1
   right;right;right
   exact⟨by simp at h;omega,by simpa using h1⟩
 · cases h
def dM:AV→List Nat
 | .mslice b _ _ _=>[b]
 | _=>[]
def Trail(st:aB)(q:AV)(tr:List Int):Prop:=
 (q=.fslice []∧tr= [])∨∃b cs,q=.mslice b 0 tr.length 1∧st b=some (.cells cs)∧cs.take tr.length=tr.map iv
structure gE (st:aB) (c m:Nat) (q:AV) (σ:Sub) (tr:List Int):Prop where
 sub:jB st c m q σ
 eY:Trail st q tr
 apart:c∉dM q
structure mX (c m:Nat) (st:aB) (q:AV) (st':aB) (q':AV):Prop where
 frame:∀b o,st b=some o→b≠c→b≠m→b∉dM q→st' b=some o
 fresh:∀b∈dM q',b∈dM q∨st b=none
def wS(c m:Nat)(st:aB)(q:AV)(σ':Sub)(tr':List Int)(st':aB):Prop:=∃q',gE st' c m q' σ' tr'∧mX c m st q st' q'
theorem mX.refl(c m:Nat)(st:aB)(q:AV):mX c m st q st q:=⟨fun _ _ h _ _ _=>h,fun _ h=>.inl h⟩
theorem mX.trans{c m:Nat}{st st' AI:aB}{q q' q'':AV}{σ:Sub}{tr:List Int}(x:mX c m st q st' q')(hS:gE st' c m q' σ tr)(y:mX c m st' q' AI q''):mX c m st q AI q'':=by
 refine⟨fun b o h h1 h2 h3=>?_,fun b hb=>?_⟩
 · refine y.frame b o (x.frame b o h h1 h2 h3) h1 h2 fun h4=>?_
   rcases x.fresh b h4 with h5 | h5
   · exact h3 h5
   · rw[h5] at h;cases h
 · rcases y.fresh b hb with h | h
   · exact x.fresh b h
   · by_cases h1:b∈dM q
     · exact .inl h1
     · refine .inr ?_
       cases hst:st b with
       | none=>rfl
       | some o=>
        exfalso
        by_cases hc:b=c
        · subst hc;rw[hS.sub.cells] at h;cases h
        · by_cases hm:b=m
          · subst hm;rw[hS.sub.map] at h;cases h
          · rw[x.frame b o hst hc hm h1] at h;cases h
theorem gE.JN{st:aB}{c m:Nat}{q:AV}{σ:Sub}{tr:List Int}(h:gE st c m q σ tr):∀b∈dM q,∃cs,st b=some (.cells cs):=by
 intro b hb
 rcases h.eY with ⟨rfl,_⟩ | ⟨b',cs,rfl,hb',_⟩
 · simp [dM] at hb
 · simp only[dM,cY,dK,dQ] at hb;subst hb;exact⟨cs,hb'⟩
theorem gE.NC{st:aB}{c m:Nat}{q:AV}{σ:Sub}{tr:List Int}(h:gE st c m q σ tr):m∉dM q:=fun hb=>by
 obtain⟨cs,e⟩:=h.JN m hb
 rw[h.sub.map] at e;cases e
theorem gE.aC{st:aB}{c m b:Nat}{q:AV}{σ:Sub}{tr:List Int}{o:AO}(h:gE st c m q σ tr)(h1:b≠c)(h2:b≠m)(h3:b∉dM q):gE (st.aC b o) c m q σ tr:=by
 refine⟨h.sub.O6 h1 h2,?_,h.apart⟩
 rcases h.eY with h4 | ⟨b',cs,e1,e2,e3⟩
 · exact .inl h4
 · refine .inr ⟨b',cs,e1,?_,e3⟩
   rw[aB.aH _ _ (by rintro rfl;exact h3 (by rw[e1];simp [dM]))]
   exact e2
theorem gE.GJ{st:aB}{c m b:Nat}{q:AV}{σ:Sub}{tr:List Int}{o:AO}(h:gE st c m q σ tr)(hb:st b=none):gE (st.aC b o) c m q σ tr:=
 h.aC (h.sub.ne hb).1 (h.sub.ne hb).2 fun h3=>by obtain⟨cs,e⟩:=h.JN b h3;rw[hb] at e;cases e
theorem mX.GJ{c m b:Nat}{st:aB}{q:AV}{o:AO}(hb:st b=none):mX c m st q (st.aC b o) q:=
 ⟨fun x p h _ _ _=>by rw[aB.aH _ _ (by rintro rfl;rw[hb] at h;cases h)];exact h,fun _ h=>.inl h⟩
theorem gE.shape{st:aB}{c m:Nat}{q:AV}{σ:Sub}{tr:List Int}(h:gE st c m q σ tr):q.isAgg=false∧q.width=1∧q.cD=false∧q.cells= [q]∧q.storable=true:=by
 rcases h.eY with ⟨rfl,_⟩ | ⟨b',cs,rfl,_⟩<;>exact⟨rfl,rfl,rfl,rfl,rfl⟩
theorem wS.from{c m:Nat}{st s0 st':aB}{q q0:AV}{σ σ':Sub}{tr tr':List Int}(h:wS c m s0 q0 σ' tr' st')(x:mX c m st q s0 q0)(hS:gE s0 c m q0 σ tr):wS c m st q σ' tr' st':=by
 obtain⟨q',h1,h2⟩:=h
 exact⟨q',h1,x.trans hS h2⟩
theorem bB0{P:Program}{t:TypeId}{ag:Bool}{bytes:Nat}{zs:List AV}{st:aB}{c m:Nat}{q:AV}{σ:Sub}{tr:List Int}{n:Int}{K:AV→aB→Prop}(hI:eI P t=some (ag,1))(hB:eB P t=some bytes)(hZ:eZ P t=some zs)(hz:zs.length=1)(hb8:bytes≤16)
 (h:gE st c m q σ tr) (hl:tr.length+1≤1099511627776)
 (hK:∀q' st',Trail st' q' (tr++ [n])→c∉dM q'→m∉dM q'→(∀x,x∉dM q→x∉dM q'→st' x=st x)→(∀x∈dM q',x∈dM q∨st x=none)→K q' st'):jC P t st q (.fslice [.int .i64 n]) K:=by
 have eR:w7 1 [AV.int .i64 n]:=by intro e he;simp only[cY,dK,dQ] at he;subst he;exact⟨rfl,rfl⟩
 have zN:(tr.length+1)*bytes≤140737488355328:=by
  have:=KR hl hb8
  omega
 unfold jC
 simp only[hI,hB,hZ,yV]
 refine⟨hz,eR,?_⟩
 have hcm:∀x,st x=none→x≠c∧x≠m:=fun x hx=>h.sub.ne hx
 rcases h.eY with ⟨rfl,rfl⟩ | ⟨b,cs,rfl,hb,hcs⟩
 · simp only[aZ,aU,gZ] at zN ⊢
   refine⟨by omega,by omega,by simp,fun h=>by simp at h,fun _ b hb=>?_⟩
   refine hK _ _ (.inr ⟨b,[.int .i64 n],rfl,aB.aJ _ _ _,rfl⟩) (by simp only[dM,cY,dK,dQ];exact c9 (hcm b hb).1) (by simp only[dM,cY,dK,dQ];exact c9 (hcm b hb).2) (fun x _ hx=>?_) (fun x hx=>?_)
   · simp only[dM,cY,dK,dQ] at hx
     rw[aB.aH _ _ hx]
   · simp only[dM,cY,dK,dQ] at hx
     subst hx;exact .inr hb
 · simp only[aU,aZ,gZ,hb]
   have hlen:tr.length≤cs.length:=by
    have:=eA List.length hcs
    simp only[c7,aF] at this
    omega
   have hca:c≠b:=fun e=>h.apart (by simp [dM,e])
   have hma:m≠b:=fun e=>h.NC (by simp [dM,e])
   have jT:cs.take (tr.length*1)++ [AV.int .i64 n].flatMap AV.cells=(tr++ [n]).map iv:=by rw[wR,hcs];simp [AV.cells]
   refine⟨trivial,zN,by omega,by omega,?_,fun b' hb'=>?_⟩
   · rw[jT]
     refine hK _ _ (.inr ⟨b,_,by simp,aB.aJ _ _ _,by rw[lM (by simp)]⟩) (by simpa [dM] using hca) (by simpa [dM] using hma) (fun x hx _=>?_) (fun x hx=>.inl hx)
     simp only[dM,cY,dK,dQ] at hx
     rw[aB.aH _ _ hx]
   · rw[jT]
     obtain⟨hc',hm'⟩:=hcm b' hb'
     refine hK _ _ (.inr ⟨b',_,by simp,aB.aJ _ _ _,by rw[lM (by simp)]⟩) (by simpa [dM] using c9 hc') (by simpa [dM] using c9 hm') (fun x hx hx'=>?_) (fun x hx=>?_)
     · simp only[dM,cY,dK,dQ] at hx hx'
       rw[aB.aH _ _ hx']
       simp [aB.erase,hx]
     · simp only[dM,cY,dK,dQ] at hx
       subst hx;exact .inr hb'
end Go.AW
