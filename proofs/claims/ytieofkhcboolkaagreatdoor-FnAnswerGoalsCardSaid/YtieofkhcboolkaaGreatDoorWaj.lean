/- Unification: it keeps the bindings good, makes the terms equal, and is most general; it comes to an end. -/
import Derived.Test.YtieofkhcboolkaaGreatDoorWai
import Derived.Test.YtieofkhcboolkaaGreatDoorWaf
import Derived.Test.YtieofkhcboolkaaGreatDoorWah
set_option linter.unusedSimpArgs false
set_option linter.unusedVariables false
set_option maxRecDepth 100000
namespace Go.AW
abbrev cS (σ:Sub):Prop:=∃R rk B,Good σ R rk B
theorem cS.rs{σ:Sub}(h:cS σ):∃rk B,Good σ (rs σ) rk B:=by
 obtain⟨R,rk,B,G⟩:=h
 exact⟨rk,B,by rw[G.rs];exact G⟩
theorem cS.none:cS Sub.none:=⟨_,_,_,Good.none⟩
structure oD (σ:Sub) (a b:List Tm) (r:Bool) (σ':Sub) (tr:List Int):Prop where
 gW:cS σ'
 bB:∀m,m∉tr→σ' m=σ m
 new:∀m∈tr,σ m=none∧σ' m≠none
 nodup:tr.Nodup
 eq:r=true→a.map (Tm.aG (rs σ'))=b.map (Tm.aG (rs σ'))
 gen:∀θ,rJ θ σ→a.map (Tm.aG θ)=b.map (Tm.aG θ)→r=true∧rJ θ σ'
 same:tr= []→σ'=σ
theorem rJ.sub{σ σ':Sub}{θ:Int→Tm}{tr:List Int}(S:rJ θ σ')(bB:∀m,m∉tr→σ' m=σ m)(new:∀m∈tr,σ m=none∧σ' m≠none):rJ θ σ:=fun n u h=>by
 by_cases hn:n∈tr
 · rw[(new n hn).1] at h;cases h
 · exact S n u (by rw[bB n hn];exact h)
theorem oD.wJ{σ σ':Sub}{a b:List Tm}{r:Bool}{tr:List Int}(h:oD σ a b r σ' tr):rJ (rs σ') σ:=by
 obtain⟨rk,B,G⟩:=h.gW.rs
 exact G.wJ.sub h.bB h.new
theorem oD.stays{σ σ':Sub}{a b:List Tm}{r:Bool}{tr:List Int}(h:oD σ a b r σ' tr)(hg:cS σ){x y:Tm}(e:x.aG (rs σ)=y.aG (rs σ)):x.aG (rs σ')=y.aG (rs σ'):=by
 obtain⟨rk,B,G⟩:=hg.rs
 rw[←G.PY h.wJ x,←G.PY h.wJ y,e]
theorem WV{σ:Sub}(hg:cS σ){a b:Tm}{n:Int}(ha:a.k=1)(han:a.n=n)(hn:σ n=none)(hb:b.k=1→σ b.n=none∧b.n≠n){r:Bool}{σ':Sub}{tr:List Int}(h:j9 σ n b=(r,σ',tr)):oD σ [a] [b] r σ' tr:=by
 obtain⟨rk,B,G⟩:=hg.rs
 have hav:∀θ,a.aG θ=θ n:=fun θ=>by rw[Tm.DW θ ha,han]
 unfold j9 at h
 split at h
 · rename_i gO
   cases h
   refine⟨hg,fun _ _=>rfl,fun _ h=>absurd h (dP),oX,fun h=>(by cases h),fun θ S e=>?_,fun _=>rfl⟩
   exfalso
   simp only[aZ,aV,List.cons.injEq,d9] at e
   rw[hav] at e
   by_cases hbk:b.k=1
   · rw[Tm.DW _ hbk,G.free (hb hbk).1,zA] at gO
     simp only[c8,dP,dX] at gO
     exact(hb hbk).2 gO.symm
   · rw[←G.PY S b] at e
     have h1:((b.aG (rs σ)).aG θ)=(b.aG (rs σ)).aG θ:=rfl
     have hk:(b.aG (rs σ)).k≠1:=by rw[Tm.qR _ hbk];exact hbk
     have:=(a3G (f:=θ) (b.aG (rs σ)) gO).2 hk
     rw[e] at this
     exact absurd this (Nat.lt_irrefl _)
 · rename_i gO
   cases h
   obtain⟨rk',B',G'⟩:=G.bind hn gO
   have hR:=G'.rs
   refine⟨⟨_,_,_,G'⟩,fun m hm=>?_,fun m hm=>?_,by simp,fun _=>?_,fun θ S e=>⟨rfl,fun m u hu=>?_⟩,fun h=>(by cases h)⟩
   · simp only[c8,dP,dX] at hm
     simp only[Sub.set,hm,d5]
   · simp only[c8,dP,dX] at hm
     subst hm
     exact⟨hn,by simp [Sub.set]⟩
   · simp only[aZ,aV,List.cons.injEq,d9]
     rw[hav,hR]
     exact G'.bound (by simp [Sub.set])
   · simp only[aZ,aV,List.cons.injEq,d9] at e
     rw[hav] at e
     simp only[Sub.set] at hu
     split at hu
     · rename_i hmn
       cases hu
       rw[hmn,e]
     · exact S m u hu
theorem tB{a b:Tm}:uK a b=true↔a.k=b.k∧a.n=b.n∧a.s=b.s∧a.ts.length=b.ts.length:=by
 simp only[uK,cB,bO,and_assoc]
theorem aPL(g:Nat)(a16:∀σ a b r σ' tr,cS σ→dF g σ a b=some (r,σ',tr)→oD σ [a] [b] r σ' tr):∀xs ys σ r σ' tr,cS σ→xs.length=ys.length→d8 g σ xs ys=some (r,σ',tr)→oD σ xs ys r σ' tr:=by
 intro xs
 have ihU:=a16
 induction xs with
 | nil=>
  intro ys σ r σ' tr hg hl h
  cases ys with
  | cons _ _=>simp at hl
  | nil=>
   simp only[d8,Option.some.injEq,Prod.mk.injEq] at h
   obtain⟨rfl,rfl,rfl⟩:=h
   exact⟨hg,fun _ _=>rfl,fun _ h=>absurd h (dP),oX,fun _=>rfl,fun θ S _=>⟨rfl,S⟩,fun _=>rfl⟩
 | cons a xs ih=>
  intro ys σ r σ' tr hg hl h
  cases ys with
  | nil=>simp at hl
  | cons b ys=>
   rw[d8] at h
   cases h1:dF g σ a b with
   | none=>rw[h1] at h;cases h
   | some p=>
    obtain⟨r1,σ1,tr1⟩:=p
    have U1:=ihU σ a b r1 σ1 tr1 hg h1
    rw[h1] at h
    cases r1 with
    | false=>
     simp only[Option.some.injEq,Prod.mk.injEq] at h
     obtain⟨rfl,rfl,rfl⟩:=h
     refine⟨U1.gW,U1.bB,U1.new,U1.nodup,fun h=>(by cases h),fun θ S e=>?_,U1.same⟩
     simp only[aZ,List.cons.injEq] at e
     exact U1.gen θ S (by simp [e.1])
    | true=>
     simp only at h
     cases h2:d8 g σ1 xs ys with
     | none=>rw[h2] at h;cases h
     | some p2=>
      obtain⟨r2,σ2,tr2⟩:=p2
      rw[h2] at h
      simp only[Option.some.injEq,Prod.mk.injEq] at h
      obtain⟨rfl,rfl,rfl⟩:=h
      have U2:=ih ys σ1 r2 σ2 tr2 U1.gW (by simpa using hl) h2
      refine⟨U2.gW,fun m hm=>?_,fun m hm=>?_,?_,fun hr=>?_,fun θ S e=>?_,fun h=>?_⟩
      · simp only[fQ,not_or] at hm
        rw[U2.bB m hm.2,U1.bB m hm.1]
      · rcases fQ.1 hm with hm | hm
        · refine⟨(U1.new m hm).1,fun h=>(U1.new m hm).2 ?_⟩
          by_cases h3:m∈tr2
          · exact(U2.new m h3).1
          · rw[←U2.bB m h3];exact h
        · refine⟨?_,(U2.new m hm).2⟩
          by_cases h3:m∈tr1
          · exact(U1.new m h3).1
          · rw[←U1.bB m h3];exact(U2.new m hm).1
      · rw[tY]
        refine⟨U1.nodup,U2.nodup,fun x hx y hy e=>?_⟩
        subst e
        exact(U1.new x hx).2 (U2.new x hy).1
      · have e1:=U1.eq rfl
        simp only[aZ,aV,List.cons.injEq,d9] at e1
        simp only[aZ]
        rw[U2.stays U1.gW e1,U2.eq hr]
      · simp only[aZ,List.cons.injEq] at e
        obtain⟨_,S1⟩:=U1.gen θ S (by simp [e.1])
        exact U2.gen θ S1 e.2
      · simp only[List.append_eq_nil_iff] at h
        rw[U2.same h.2,U1.same h.1]
theorem a7J:∀(g:Nat),(∀σ a b r σ' tr,cS σ→dF g σ a b=some (r,σ',tr)→oD σ [a] [b] r σ' tr) ∧
 ∀xs ys σ r σ' tr,cS σ→xs.length=ys.length→d8 g σ xs ys=some (r,σ',tr)→oD σ xs ys r σ' tr:=by
 intro g
 induction g with
 | zero=>
  have h0:∀σ a b r σ' tr,cS σ→dF 0 σ a b=some (r,σ',tr)→oD σ [a] [b] r σ' tr:=fun σ a b r σ' tr hg h=>by simp only[dF] at h;cases h
  exact⟨h0,aPL _ h0⟩
 | succ g ih=>
  suffices hU:∀σ a b r σ' tr,cS σ→dF (g+1) σ a b=some (r,σ',tr)→oD σ [a] [b] r σ' tr from ⟨hU,aPL _ hU⟩
  intro σ a b r σ' tr hg h
  obtain⟨ihU,ihL⟩:=ih
  have a15:=fun xs ys σ r σ' tr hg hl h=>ihL xs ys σ r σ' tr hg hl h
  obtain⟨rk,B,G⟩:=hg.rs
  obtain⟨fa,wa⟩:=G.wk a
  obtain⟨fb,wb⟩:=G.wk b
  have hma:∀θ,rJ θ σ→(wk σ a).aG θ=a.aG θ:=fun θ S=>wa.aG S
  have hmb:∀θ,rJ θ σ→(wk σ b).aG θ=b.aG θ:=fun θ S=>wb.aG S
  -- it suffices to speak of the walked terms
  suffices hw:oD σ [wk σ a] [wk σ b] r σ' tr by
   refine⟨hw.gW,hw.bB,hw.new,hw.nodup,fun hr=>?_,fun θ S e=>?_,hw.same⟩
   · have:=hw.eq hr
     simp only[aZ,aV,List.cons.injEq,d9] at this ⊢
     rw[←hma _ hw.wJ,←hmb _ hw.wJ];exact this
   · refine hw.gen θ S ?_
     simp only[aZ,aV,List.cons.injEq,d9] at e ⊢
     rw[hma θ S,hmb θ S];exact e
  have ea:=wa.end
  have eb:=wb.end
  rw[dF] at h
  generalize wk σ a=a at *
  generalize wk σ b=b at *
  split at h
  · rename_i hc
    simp only[Option.some.injEq,Prod.mk.injEq] at h
    obtain⟨rfl,rfl,rfl⟩:=h
    have he:∀θ,a.aG θ=b.aG θ:=fun θ=>by rw[Tm.DW θ hc.1,Tm.DW θ hc.2.1,hc.2.2]
    exact⟨hg,fun _ _=>rfl,fun _ h=>absurd h (dP),oX,fun _=>by simp [he],fun θ S _=>⟨rfl,S⟩,fun _=>rfl⟩
  · rename_i hc
    split at h
    · rename_i ha
      exact WV hg ha rfl (ea ha) (fun hb=>⟨eb hb,fun e=>hc ⟨ha,hb,e.symm⟩⟩) (kZ h)
    · rename_i ha
      split at h
      · rename_i hb
        have U:=WV hg hb rfl (eb hb) (fun ha'=>absurd ha' ha) (kZ h)
        exact⟨U.gW,U.bB,U.new,U.nodup,fun hr=>(U.eq hr).symm,fun θ S e=>U.gen θ S e.symm,U.same⟩
      · rename_i hb
        split at h
        · rename_i hh
          rw[tB] at hh
          have U:=a15 a.ts b.ts σ r σ' tr hg hh.2.2.2 h
          refine⟨U.gW,U.bB,U.new,U.nodup,fun hr=>?_,fun θ S e=>?_,U.same⟩
          · simp only[aZ,aV,List.cons.injEq,d9]
            rw[Tm.qR _ ha,Tm.qR _ hb,hh.1,hh.2.1,hh.2.2.1,U.eq hr]
          · simp only[aZ,aV,List.cons.injEq,d9] at e
            rw[Tm.qR _ ha,Tm.qR _ hb] at e
            exact U.gen θ S (by injection e)
        · rename_i hh
          simp only[Option.some.injEq,Prod.mk.injEq] at h
          obtain⟨rfl,rfl,rfl⟩:=h
          refine⟨hg,fun _ _=>rfl,fun _ h=>absurd h (dP),oX,fun h=>(by cases h),fun θ S e=>?_,fun _=>rfl⟩
          exfalso
          simp only[aZ,aV,List.cons.injEq,d9] at e
          rw[Tm.qR _ ha,Tm.qR _ hb] at e
          injection e with e1 e2 e3 e4
          exact hh (tB.2 ⟨e1,e2,e3,by simpa using fE List.length e4⟩)
theorem w4{g:Nat}{σ:Sub}{a b:Tm}{r:Bool}{σ':Sub}{tr:List Int}(hg:cS σ)(h:dF g σ a b=some (r,σ',tr)):oD σ [a] [b] r σ' tr:=(a7J g).1 σ a b r σ' tr hg h
theorem aPM(g g':Nat)(ih:∀σ a b x,dF g σ a b=some x→dF g' σ a b=some x):∀xs ys σ x,d8 g σ xs ys=some x→d8 g' σ xs ys=some x:=by
 intro xs
 induction xs with
 | nil=>intro ys σ x h;cases ys<;>simpa only[d8] using h
 | cons a xs ihx=>
  intro ys σ x h
  cases ys with
  | nil=>simpa only[d8] using h
  | cons b ys=>
   rw[d8] at h ⊢
   cases h1:dF g σ a b with
   | none=>rw[h1] at h;cases h
   | some p=>
    rw[h1] at h
    rw[ih _ _ _ _ h1]
    obtain⟨r1,σ1,tr1⟩:=p
    cases r1 with
    | false=>exact h
    | true=>
     simp only at h ⊢
     cases h2:d8 g σ1 xs ys with
     | none=>rw[h2] at h;cases h
     | some p2=>rw[h2] at h;rw[ihx ys σ1 p2 h2];exact h
theorem a7L:∀(g:Nat) σ a b x,dF g σ a b=some x→dF (g+1) σ a b=some x:=by
 intro g
 induction g with
 | zero=>intro σ a b x h;simp only[dF] at h;cases h
 | succ g ih=>
  intro σ a b x h
  rw[dF] at h ⊢
  split
  · rename_i hc;rw[aJ hc] at h;exact h
  · rename_i hc
    rw[aF hc] at h
    split
    · rename_i hc;rw[aJ hc] at h;exact h
    · rename_i hc
      rw[aF hc] at h
      split
      · rename_i hc;rw[aJ hc] at h;exact h
      · rename_i hc
        rw[aF hc] at h
        split
        · rename_i hc;rw[aJ hc] at h;exact aPM g (g+1) ih _ _ _ _ h
        · rename_i hc;rw[aF hc] at h;exact h
theorem NC{g g':Nat}(hle:g≤g'){σ:Sub}{a b:Tm}{x:Bool×Sub×List Int}(h:dF g σ a b=some x):dF g' σ a b=some x:=by
 induction hle with
 | refl=>exact h
 | step _ ih=>exact a7L _ _ _ _ _ ih
theorem a7O{g g':Nat}(hle:g≤g'){σ:Sub}{xs ys:List Tm}{x:Bool×Sub×List Int}(h:d8 g σ xs ys=some x):d8 g' σ xs ys=some x:=
 aPM g g' (fun _ _ _ _ h=>NC hle h) xs ys σ x h
def tR(σ:Sub)(V:List Int):Nat:=V.countP fun v=>(σ v).isNone
def iX(V:List Int)(t:Tm):Prop:=∀v∈t.vl,v∈V
def mE(V:List Int)(σ:Sub):Prop:=∀n u,σ n=some u→iX V u
theorem a7H{σ σ':Sub}{tr:List Int}{V:List Int}(bB:∀m,m∉tr→σ' m=σ m)(new:∀m∈tr,σ m=none∧σ' m≠none){m:Int}(hm:m∈tr)(hV:m∈V):tR σ' V<tR σ V:=by
 have mono:∀v,(σ' v).isNone=true→(σ v).isNone=true:=fun v h=>by
  by_cases hv:v∈tr
  · rw[(new v hv).1];try rfl
  · rw[←bB v hv];exact h
 have le:∀W:List Int,tR σ' W≤tR σ W:=fun W=>List.countP_mono_left fun v _ h=>mono v h
 unfold tR at *
 induction V with
 | nil=>cases hV
 | cons v V ih=>
  simp only[List.countP_cons]
  have hle:=le V
  rcases c8.1 hV with rfl | hV
  · have h1:(σ m).isNone=true:=by rw[(new m hm).1];try rfl
    have h2:(σ' m).isNone=false:=by
     cases h:σ' m with
     | none=>exact absurd h (new m hm).2
     | some _=>rfl
    simp only[h1,h2,gB,gE,d5]
    omega
  · have:=ih hV
    have h3:=mono v
    by_cases h4:(σ' v).isNone=true
    · rw[aJ h4,aJ (h3 h4)];omega
    · rw[aF h4];split<;>omega
theorem f0.G3{σ:Sub}{V:List Int}(hr:mE V σ){f:Nat}{t u:Tm}(h:f0 σ f t u)(ht:iX V t):iX V u:=h.all (p:=iX V) (fun n u hu=>hr n u hu) ht
theorem iX.nA{V:List Int}{t x:Tm}(h:iX V t)(hk:t.k≠1)(hx:x∈t.ts):iX V x:=fun v hv=>h v (by cases t;exact(Tm.kV hk).2 ⟨x,hx,hv⟩)
theorem aPK:∀(g:Nat),(∀σ a b r σ' tr V,cS σ→dF g σ a b=some (r,σ',tr)→mE V σ→iX V a→iX V b→mE V σ'∧∀m∈tr,m∈V) ∧
 ∀xs ys σ r σ' tr V,cS σ→xs.length=ys.length→d8 g σ xs ys=some (r,σ',tr)→mE V σ→(∀x∈xs,iX V x)→(∀y∈ys,iX V y)→mE V σ'∧∀m∈tr,m∈V:=by
 intro g
 have list:∀g,(∀σ a b r σ' tr V,cS σ→dF g σ a b=some (r,σ',tr)→mE V σ→iX V a→iX V b→mE V σ'∧∀m∈tr,m∈V) →
  ∀xs ys σ r σ' tr V,cS σ→xs.length=ys.length→d8 g σ xs ys=some (r,σ',tr)→mE V σ→(∀x∈xs,iX V x)→(∀y∈ys,iX V y)→mE V σ'∧∀m∈tr,m∈V:=by
  intro g ihU xs
  induction xs with
  | nil=>
   intro ys σ r σ' tr V hg hl h hr _ _
   cases ys with
   | cons _ _=>simp at hl
   | nil=>
    simp only[d8,Option.some.injEq,Prod.mk.injEq] at h
    obtain⟨rfl,rfl,rfl⟩:=h
    exact⟨hr,fun _ h=>absurd h (dP)⟩
  | cons a xs ih=>
   intro ys σ r σ' tr V hg hl h hr hx hy
   cases ys with
   | nil=>simp at hl
   | cons b ys=>
    rw[d8] at h
    cases h1:dF g σ a b with
    | none=>rw[h1] at h;cases h
    | some p=>
     obtain⟨r1,σ1,tr1⟩:=p
     have U1:=w4 hg h1
     obtain⟨i1,i2⟩:=ihU σ a b r1 σ1 tr1 V hg h1 hr (hx a (by simp)) (hy b (by simp))
     rw[h1] at h
     cases r1 with
     | false=>
      simp only[Option.some.injEq,Prod.mk.injEq] at h
      obtain⟨rfl,rfl,rfl⟩:=h
      exact⟨i1,i2⟩
     | true=>
      simp only at h
      cases h2:d8 g σ1 xs ys with
      | none=>rw[h2] at h;cases h
      | some p2=>
       obtain⟨r2,σ2,tr2⟩:=p2
       rw[h2] at h
       simp only[Option.some.injEq,Prod.mk.injEq] at h
       obtain⟨rfl,rfl,rfl⟩:=h
       obtain⟨j1,j2⟩:=ih ys σ1 r2 σ2 tr2 V U1.gW (by simpa using hl) h2 i1 (fun x h=>hx x (by simp [h])) (fun y h=>hy y (by simp [h]))
       exact⟨j1,fun m hm=>(fQ.1 hm).elim (i2 m) (j2 m)⟩
 induction g with
 | zero=>
  have h0:∀σ a b r σ' tr V,cS σ→dF 0 σ a b=some (r,σ',tr)→mE V σ→iX V a→iX V b→mE V σ'∧∀m∈tr,m∈V:=fun σ a b r σ' tr V hg h=>by simp only[dF] at h;cases h
  exact⟨h0,list 0 h0⟩
 | succ g ih=>
  suffices hU:∀σ a b r σ' tr V,cS σ→dF (g+1) σ a b=some (r,σ',tr)→mE V σ→iX V a→iX V b→mE V σ'∧∀m∈tr,m∈V from ⟨hU,list _ hU⟩
  intro σ a b r σ' tr V hg h hr ha hb
  obtain⟨_,ihL⟩:=ih
  obtain⟨rk,B,G⟩:=hg.rs
  obtain⟨fa,wa⟩:=G.wk a
  obtain⟨fb,wb⟩:=G.wk b
  have va:=wa.G3 hr ha
  have vb:=wb.G3 hr hb
  have bn:∀n (t:Tm) r σ' tr,n∈V→iX V t→j9 σ n t=(r,σ',tr)→mE V σ'∧∀m∈tr,m∈V:=by
   intro n t r σ' tr hn ht h
   unfold j9 at h
   split at h<;>cases h
   · exact⟨hr,fun _ h=>absurd h (dP)⟩
   · refine⟨fun m u hu=>?_,fun m hm=>by simp only[c8,dP,dX] at hm;rw[hm];exact hn⟩
     simp only[Sub.set] at hu
     split at hu
     · cases hu;exact ht
     · exact hr m u hu
  rw[dF] at h
  generalize wk σ a=a at *
  generalize wk σ b=b at *
  split at h
  · simp only[Option.some.injEq,Prod.mk.injEq] at h
    obtain⟨rfl,rfl,rfl⟩:=h
    exact⟨hr,fun _ h=>absurd h (dP)⟩
  · split at h
    · rename_i hk
      exact bn _ _ _ _ _ (va _ (by rw[Tm.EX hk];simp)) vb (kZ h)
    · rename_i hka
      split at h
      · rename_i hk
        exact bn _ _ _ _ _ (vb _ (by rw[Tm.EX hk];simp)) va (kZ h)
      · rename_i hkb
        split at h
        · rename_i hh
          exact ihL a.ts b.ts σ r σ' tr V hg (tB.1 hh).2.2.2 h hr (fun x hx=>va.nA hka hx) (fun y hy=>vb.nA hkb hy)
        · simp only[Option.some.injEq,Prod.mk.injEq] at h
          obtain⟨rfl,rfl,rfl⟩:=h
          exact⟨hr,fun _ h=>absurd h (dP)⟩
def cV(p:Tm→Prop)(σ:Sub):Prop:=∀n u,σ n=some u→p u
theorem ND{p:Tm→Prop}(hp:∀t:Tm,t.k≠1→p t→∀x∈t.ts,p x):∀(g:Nat),(∀σ a b r σ' tr,cS σ→dF g σ a b=some (r,σ',tr)→cV p σ→p a→p b→cV p σ') ∧
 ∀xs ys σ r σ' tr,cS σ→xs.length=ys.length→d8 g σ xs ys=some (r,σ',tr)→cV p σ→(∀x∈xs,p x)→(∀y∈ys,p y)→cV p σ':=by
 intro g
 have list:∀g,(∀σ a b r σ' tr,cS σ→dF g σ a b=some (r,σ',tr)→cV p σ→p a→p b→cV p σ') →
  ∀xs ys σ r σ' tr,cS σ→xs.length=ys.length→d8 g σ xs ys=some (r,σ',tr)→cV p σ→(∀x∈xs,p x)→(∀y∈ys,p y)→cV p σ':=by
  intro g ihU xs
  induction xs with
  | nil=>
   intro ys σ r σ' tr hg hl h hr _ _
   cases ys with
   | cons _ _=>simp at hl
   | nil=>
    simp only[d8,Option.some.injEq,Prod.mk.injEq] at h
    obtain⟨rfl,rfl,rfl⟩:=h
    exact hr
  | cons a xs ih=>
   intro ys σ r σ' tr hg hl h hr hx hy
   cases ys with
   | nil=>simp at hl
   | cons b ys=>
    rw[d8] at h
    cases h1:dF g σ a b with
    | none=>rw[h1] at h;cases h
    | some p=>
     obtain⟨r1,σ1,tr1⟩:=p
     have U1:=w4 hg h1
     have i1:=ihU σ a b r1 σ1 tr1 hg h1 hr (hx a (by simp)) (hy b (by simp))
     rw[h1] at h
     cases r1 with
     | false=>
      simp only[Option.some.injEq,Prod.mk.injEq] at h
      obtain⟨rfl,rfl,rfl⟩:=h
      exact i1
     | true=>
      simp only at h
      cases h2:d8 g σ1 xs ys with
      | none=>rw[h2] at h;cases h
      | some p2=>
       obtain⟨r2,σ2,tr2⟩:=p2
       rw[h2] at h
       simp only[Option.some.injEq,Prod.mk.injEq] at h
       obtain⟨rfl,rfl,rfl⟩:=h
       have j1:=ih ys σ1 r2 σ2 tr2 U1.gW (by simpa using hl) h2 i1 (fun x h=>hx x (by simp [h])) (fun y h=>hy y (by simp [h]))
       exact j1
 induction g with
 | zero=>
  have h0:∀σ a b r σ' tr,cS σ→dF 0 σ a b=some (r,σ',tr)→cV p σ→p a→p b→cV p σ':=fun σ a b r σ' tr hg h=>by simp only[dF] at h;cases h
  exact⟨h0,list 0 h0⟩
 | succ g ih=>
  suffices hU:∀σ a b r σ' tr,cS σ→dF (g+1) σ a b=some (r,σ',tr)→cV p σ→p a→p b→cV p σ' from ⟨hU,list _ hU⟩
  intro σ a b r σ' tr hg h hr ha hb
  obtain⟨_,ihL⟩:=ih
  obtain⟨rk,B,G⟩:=hg.rs
  obtain⟨fa,wa⟩:=G.wk a
  obtain⟨fb,wb⟩:=G.wk b
  have va:=wa.all hr ha
  have vb:=wb.all hr hb
  have bn:∀n (t:Tm) r σ' tr,p t→j9 σ n t=(r,σ',tr)→cV p σ':=by
   intro n t r σ' tr ht h
   unfold j9 at h
   split at h<;>cases h
   · exact hr
   · intro m u hu
     simp only[Sub.set] at hu
     split at hu
     · cases hu;exact ht
     · exact hr m u hu
  rw[dF] at h
  generalize wk σ a=a at *
  generalize wk σ b=b at *
  split at h
  · simp only[Option.some.injEq,Prod.mk.injEq] at h
    obtain⟨rfl,rfl,rfl⟩:=h
    exact hr
  · split at h
    · rename_i hk
      exact bn _ _ _ _ _ vb (kZ h)
    · rename_i hka
      split at h
      · rename_i hk
        exact bn _ _ _ _ _ va (kZ h)
      · rename_i hkb
        split at h
        · rename_i hh
          exact ihL a.ts b.ts σ r σ' tr hg (tB.1 hh).2.2.2 h hr (fun x hx=>hp _ hka va x hx) (fun y hy=>hp _ hkb vb y hy)
        · simp only[Option.some.injEq,Prod.mk.injEq] at h
          obtain⟨rfl,rfl,rfl⟩:=h
          exact hr
theorem a7M(V:List Int):∀(N M:Nat) (σ:Sub) (a b:Tm),cS σ→mE V σ→iX V a→iX V b→tR σ V≤N→(a.aG (rs σ)).nodes≤M→∃g x,dF g σ a b=some x:=by
 intro N
 induction N using Nat.strongRecOn with
 | _ N ihN=>
 intro M
 induction M using Nat.strongRecOn with
 | _ M ihM=>
 intro σ a b hg hr ha hb hN hM
 have list:∀(xs ys:List Tm) (σ1:Sub),xs.length=ys.length→cS σ1→mE V σ1→(σ1=σ∨tR σ1 V<tR σ V)→(∀x∈xs,iX V x∧(x.aG (rs σ)).nodes<M)→(∀y∈ys,iX V y)→∃g x,d8 g σ1 xs ys=some x:=by
  intro xs
  induction xs with
  | nil=>
   intro ys σ1 hl _ _ _ _ _
   cases ys with
   | cons _ _=>simp at hl
   | nil=>exact⟨0,(true,σ1,[]),by simp only[d8]⟩
  | cons x xs ih=>
   intro ys σ1 hl hg1 hr1 hc hx hy
   cases ys with
   | nil=>simp at hl
   | cons y ys=>
    have h1:∃g p,dF g σ1 x y=some p:=by
     rcases hc with rfl | hlt
     · exact ihM _ (hx x (by simp)).2 σ1 x y hg1 hr1 (hx x (by simp)).1 (hy y (by simp)) hN (cZ _)
     · exact ihN (tR σ1 V) (by omega) _ σ1 x y hg1 hr1 (hx x (by simp)).1 (hy y (by simp)) (cZ _) (cZ _)
    obtain⟨g1,⟨r1,σ2,tr1⟩,h1⟩:=h1
    have U1:=w4 hg1 h1
    obtain⟨i1,i2⟩:=(aPK g1).1 σ1 x y r1 σ2 tr1 V hg1 h1 hr1 (hx x (by simp)).1 (hy y (by simp))
    cases r1 with
    | false=>exact⟨g1,(false,σ2,tr1),by rw[d8,h1]⟩
    | true=>
     have hc2:σ2=σ∨tR σ2 V<tR σ V:=by
      cases htr:tr1 with
      | nil=>rw[U1.same htr];exact hc
      | cons m _=>
       have:=a7H (V:=V) U1.bB U1.new (m:=m) (by rw[htr];simp) (i2 m (by rw[htr];simp))
       rcases hc with rfl | hlt
       · exact .inr this
       · exact .inr (Nat.lt_trans this hlt)
     obtain⟨g2,p2,h2⟩:=ih ys σ2 (by simpa using hl) U1.gW i1 hc2 (fun z hz=>hx z (by simp [hz])) (fun z hz=>hy z (by simp [hz]))
     obtain⟨r2,σ3,tr2⟩:=p2
     refine⟨max g1 g2,(r2,σ3,tr1++tr2),?_⟩
     rw[d8,NC (Nat.le_max_left g1 g2) h1]
     simp only
     rw[a7O (Nat.le_max_right g1 g2) h2]
 obtain⟨rk,B,G⟩:=hg.rs
 obtain⟨fa,wa⟩:=G.wk a
 obtain⟨fb,wb⟩:=G.wk b
 have va:=wa.G3 hr ha
 have vb:=wb.G3 hr hb
 have hma:=wa.aG G.wJ
 rw[←hma] at hM
 by_cases h1:(wk σ a).k=1∧(wk σ b).k=1∧(wk σ a).n=(wk σ b).n
 · exact⟨1,_,by rw[dF,aJ h1]⟩
 by_cases h2:(wk σ a).k=1
 · exact⟨1,_,by rw[dF,aF h1,aJ h2]⟩
 by_cases h3:(wk σ b).k=1
 · exact⟨1,_,by rw[dF,aF h1,aF h2,aJ h3]⟩
 by_cases h4:uK (wk σ a) (wk σ b)=true
 · have a0W:∀x∈(wk σ a).ts,iX V x∧(x.aG (rs σ)).nodes<M:=fun x hx=>by
    refine⟨va.nA h2 hx,?_⟩
    rw[Tm.qR _ h2,Tm.gK] at hM
    have:=HQ (f:=Tm.nodes) (cI.2 ⟨x,hx,rfl⟩:x.aG (rs σ)∈(wk σ a).ts.map (Tm.aG (rs σ)))
    omega
   obtain⟨g,x,h⟩:=list (wk σ a).ts (wk σ b).ts σ (tB.1 h4).2.2.2 hg hr (.inl rfl) a0W (fun y hy=>vb.nA h3 hy)
   exact⟨g+1,x,by rw[dF,aF h1,aF h2,aF h3,aJ h4];exact h⟩
 · exact⟨1,_,by rw[dF,aF h1,aF h2,aF h3,aF h4]⟩
mutual
def Tm.flat:Tm→Nat→Bool
 | .mk _ _ _ _,0=>false
 | .mk _ _ _ ts,d+1=>MX ts d
def MX:List Tm→Nat→Bool
 | [],_=>true
 | t::ts,d=>t.flat d&&MX ts d
end
theorem aO1:∀(ts:List Tm) (d:Nat),MX ts d=ts.all fun t=>t.flat d
 | [],_=>rfl
 | t::ts,d=>by simp only[MX,j3,aO1 ts d]
theorem Tm.GF(t:Tm):t.flat 0=false:=by cases t;simp only[Tm.flat]
theorem Tm.v6(k n:Int)(s:ByteArray)(ts:List Tm)(d:Nat):(Tm.mk k n s ts).flat (d+1)=ts.all fun t=>t.flat d:=by simp only[Tm.flat,aO1]
mutual
def Tm.jY:Tm→Bool
 | .mk k n s ts=>eK k n s ts.length&&M0 ts
def M0:List Tm→Bool
 | []=>true
 | t::ts=>t.jY&&M0 ts
end
theorem aO4:∀(ts:List Tm),M0 ts=ts.all Tm.jY
 | []=>rfl
 | t::ts=>by simp only[M0,j3,aO4 ts]
theorem Tm.A3(k n:Int)(s:ByteArray)(ts:List Tm):(Tm.mk k n s ts).jY=(eK k n s ts.length&&ts.all Tm.jY):=by simp only[Tm.jY,aO4]
theorem WH{α:Type}(p q:α→Bool):∀l:List α,(l.all fun x=>p x&&q x)=(l.all p&&l.all q)
 | []=>rfl
 | x::l=>by simp only[j3,WH p q l];cases p x<;>cases q x<;>cases l.all p<;>simp
theorem Tm.aM6:∀(t:Tm) (d:Nat),t.shape (d:Int)=(t.jY&&t.flat d):=by
 intro t
 induction t using Tm.ind with
 | h k n s ts ih=>
  intro d
  cases d with
  | zero=>rw[Tm.GF,lN,Tm.BF];try rfl
  | succ d=>
   rw[Tm.BF,Tm.A3,Tm.v6,show decide ((1:Int)≤((d+1:Nat):Int))=true by simp;omega,dU,I2,←WH]
   congr 1
   rw[show(((d+1:Nat):Int) - 1)=(d:Int) by omega]
   have:∀l:List Tm,(∀x∈l,x∈ts)→(l.all fun t=>t.shape (d:Int))=l.all fun x=>x.jY&&x.flat d:=by
    intro l
    induction l with
    | nil=>intro _;rfl
    | cons x l ihl=>intro h;rw[j3,j3,ih x (h x (by simp)),ihl fun y hy=>h y (by simp [hy])]
   exact this ts fun _ h=>h
theorem Tm.a7R{t:Tm}(h:t.valid=true):t.jY=true:=by
 simp only[Tm.valid,cB] at h
 have:=h.1
 rw[show(30:Int)=((30:Nat):Int) from rfl,Tm.aM6,cB] at this
 exact this.1
theorem Tm.aPP{t:Tm}(h:t.jY=true):t.valid=(t.flat 30&&decide (t.nodes≤120)):=by
 unfold Tm.valid
 rw[show(30:Int)=((30:Nat):Int) from rfl,Tm.aM6,h,dU]
theorem Tm.LS{k n:Int}{s:ByteArray}{ts:List Tm}(h:(Tm.mk k n s ts).jY=true):eK k n s ts.length=true∧∀x∈ts,x.jY=true:=by
 rw[Tm.A3,cB] at h
 exact⟨h.1,dQ.1 h.2⟩
theorem aMF{n:Int}{s:ByteArray}{len:Int}(h:eK 1 n s len=true):0≤n∧n≤25∧s=⟨#[]⟩∧len=0:=by
 simp [eK] at h
 exact⟨h.1.1.1,h.1.1.2,h.1.2,h.2⟩
theorem a3X{k n:Int}{s:ByteArray}{len:Int}(h:eK k n s len=true):(k=1∨k=2∨k=3)∧len≤4:=by
 unfold eK at h
 by_cases h1:k=1
 · simp [h1] at h;omega
 · by_cases h2:k=2
   · simp [h2] at h;omega
   · by_cases h3:k=3
     · simp [h3] at h;omega
     · simp [h1,h2,h3] at h
theorem Tm.a3N:∀(t:Tm),t.jY=true→t.cv=true:=by
 intro t
 induction t using Tm.ind with
 | h k n s ts ih=>
  intro h
  obtain⟨h1,h2⟩:=Tm.LS h
  refine Tm.lU.2 ⟨fun hk=>?_,fun x hx=>ih x hx (h2 x hx)⟩
  subst hk
  obtain⟨_,_,h3,h4⟩:=aMF h1
  exact⟨h3,rH (by omega)⟩
def CA:List Int:=(List.range 26).map fun i:Nat=>(i:Int)
theorem G9{n:Int}:n∈CA↔0≤n∧n≤25:=by
 simp only[CA,cI,vC]
 constructor
 · rintro⟨i,h,rfl⟩;omega
 · intro h;exact⟨n.toNat,by omega,by omega⟩
theorem Tm.a3O:∀(t:Tm),t.jY=true→iX CA t:=by
 intro t
 induction t using Tm.ind with
 | h k n s ts ih=>
  intro h v hv
  obtain⟨h1,h2⟩:=Tm.LS h
  by_cases hk:k=1
  · rw[Tm.mU hk] at hv
    simp only[c8,dP,dX] at hv
    subst hv hk
    obtain⟨h3,h4,_⟩:=aMF h1
    exact G9.2 ⟨h3,h4⟩
  · obtain⟨x,hx,hvx⟩:=(Tm.kV hk).1 hv
    exact ih x hx (h2 x hx) v hvx
theorem a3B{f:Int→Tm}:∀(t:Tm),t.jY=true→(∀v∈t.vl,(f v).jY=true)→(t.aG f).jY=true:=by
 intro t
 induction t using Tm.ind with
 | h k n s ts ih=>
  intro h hf
  obtain⟨h1,h2⟩:=Tm.LS h
  by_cases hk:k=1
  · rw[Tm.kI f hk];exact hf n (by rw[Tm.mU hk];simp)
  · rw[Tm.i8 f hk,Tm.A3,aE,h1,dU,List.all_map,dQ]
    exact fun x hx=>ih x hx (h2 x hx) fun v hv=>hf v ((Tm.kV hk).2 ⟨x,hx,hv⟩)
theorem aPV{n:Int}(h:n∈CA):(vr n).jY=true:=by
 rw[G9] at h
 rw[vr,Tm.A3]
 simp [eK,h]
theorem a7K{g g':Nat}{σ:Sub}{a b:Tm}{x y:Bool×Sub×List Int}(h:dF g σ a b=some x)(h':dF g' σ a b=some y):x=y:=by
 have h1:=NC (Nat.le_max_left g g') h
 rw[NC (Nat.le_max_right g g') h'] at h1
 exact(kZ h1).symm
structure a8G (a b:Tm) (r:Bool) (σ:Sub) (tr:List Int):Prop where
 run:∃g,dF g Sub.none a b=some (r,σ,tr)
 nN:oD Sub.none [a] [b] r σ tr
 jY:cV (fun t=>t.jY=true) σ
 G3:mE CA σ
 trV:∀m∈tr,m∈CA
theorem aL0:∀ {l V:List Int},l.Nodup→(∀x∈l,x∈V)→l.length≤V.length
 | [],_,_,_=>jH _
 | x::l,V,h,hV=>by
  rw[List.nodup_cons] at h
  have hx:=hV x (by simp)
  have:=aL0 (V:=V.erase x) h.2 fun y hy=>(List.mem_erase_of_ne (by rintro rfl;exact h.1 hy)).2 (hV y (by simp [hy]))
  rw[List.length_erase_of_mem hx] at this
  have:=List.length_pos_of_mem hx
  simp only[aS]
  omega
structure a77 (a b:Tm) (bs:List Bd):Prop where
 va:a.valid=true
 vb:b.valid=true
 vs:(bs.all fun x=>x.2.valid)=true
 eq:a.aG (gM bs)=b.aG (gM bs)
 idem:∀x∈bs,x.2.aG (gM bs)=x.2
 sorted:bs.Pairwise fun x y=>x.1<y.1
abbrev zt:AV:=.agg [.int .i64 0,.int .i64 0,.str ⟨#[]⟩,.fslice []]
def mapOf(σ:Sub):Int→Option AV:=fun n=>(σ n).map Tm.av
def found:Option Tm→AV
 | some u=>.tup [u.av,.bool true]
 | none=>.tup [zt,.bool false]
theorem aLN{P:Program}{st:aB}{m:Nat}{σ:Sub}{t kt et:TypeId}{n:Int}(hm:st m=some (.map (mapOf σ)))(hu:P.underlying t=some (.map kt et))(hk:P.underlying kt=some (.int .i64))(hz:zV P et=some zt) :
 o0 P st t true (.map m) (.int .i64 n)=some (found (σ n)):=by
 unfold o0
 simp only[hm,hu,hk,mapOf]
 cases h:σ n with
 | none=>simp [hz,found,AV.cE]
 | some u=>simp [found,cC]
theorem aPO{P:Program}{st:aB}{m:Nat}{σ:Sub}{t kt et:TypeId}{n:Int}{u:Tm}{K:AV→aB→Prop}(hm:st m=some (.map (mapOf σ)))(hu:P.underlying t=some (.map kt et))(hk:P.underlying kt=some (.int .i64))
 (h:K .undef (st.aC m (.map (mapOf (σ.set n u))))):sP P t st (.map m) (.int .i64 n) u.av K:=by
 unfold sP
 simp only[hu,hm,hk]
 refine⟨cC u,?_⟩
 have:n0 (mapOf σ) n (some u.av)=mapOf (σ.set n u):=by
  funext x
  unfold n0 mapOf Sub.set
  split<;>rfl
 rw[this]
 exact h
structure iY (st:aB) (c m:Nat) (q:AV) (σ:Sub):Prop where
 cells:st c=some (.cells [.map m,q])
 map:st m=some (.map (mapOf σ))
theorem iY.aC{st:aB}{c m b:Nat}{q:AV}{σ:Sub}{o:AO}(h:iY st c m q σ)(hb:st b=none):iY (st.aC b o) c m q σ:=
 ⟨(by rw[aB.aM _ _ (by rintro rfl;rw[h.cells] at hb;cases hb)];exact h.cells),(by rw[aB.aM _ _ (by rintro rfl;rw[h.map] at hb;cases hb)];exact h.map)⟩
theorem iY.NE{st:aB}{c m b:Nat}{q:AV}{σ:Sub}{o:AO}(h:iY st c m q σ)(h1:b≠c)(h2:b≠m):iY (st.aC b o) c m q σ:=
 ⟨(by rw[aB.aM _ _ (c7 h1)];exact h.cells),by rw[aB.aM _ _ (c7 h2)];exact h.map⟩
theorem iY.ne{st:aB}{c m b:Nat}{q:AV}{σ:Sub}(h:iY st c m q σ)(hb:st b=none):b≠c∧b≠m:=⟨(by rintro rfl;rw[h.cells] at hb;cases hb),(by rintro rfl;rw[h.map] at hb;cases hb)⟩
theorem iY.cm{st:aB}{c m:Nat}{q:AV}{σ:Sub}(h:iY st c m q σ):c≠m:=by rintro rfl;have:=h.cells;rw[h.map] at this;cases this
def lX(M:List Int):Int→Option AV:=fun x=>if x∈M then some (.bool true) else none
theorem a2Y{P:Program}{st:aB}{mm:Nat}{M:List Int}{t kt et:TypeId}{n:Int}(hm:st mm=some (.map (lX M)))(hu:P.underlying t=some (.map kt et))(hk:P.underlying kt=some (.int .i64))(hz:zV P et=some (.bool false)) :
 o0 P st t false (.map mm) (.int .i64 n)=some (.bool (decide (n∈M))):=by
 unfold o0
 simp only[hm,hu,hk,lX]
 by_cases h:n∈M
 · simp [h,AV.cE]
 · simp [h,hz,AV.cE]
theorem a7P{P:Program}{st:aB}{mm:Nat}{M:List Int}{t kt et:TypeId}{n:Int}{K:AV→aB→Prop}(hm:st mm=some (.map (lX M)))(hu:P.underlying t=some (.map kt et))(hk:P.underlying kt=some (.int .i64))
 (h:K .undef (st.aC mm (.map (lX (n::M))))):sP P t st (.map mm) (.int .i64 n) (.bool true) K:=by
 unfold sP
 simp only[hu,hm,hk]
 refine⟨rfl,?_⟩
 have:n0 (lX M) n (some (.bool true))=lX (n::M):=by
  funext x
  unfold n0 lX
  by_cases e:x=n
  · simp [e]
  · simp [e]
 rw[this]
 exact h
theorem a3E:lX []=fun _=>none:=by funext x;simp [lX]
theorem UP(t:Tm):t.wf=true→∀l:List Int,(∀v,v∈t.vars l↔v∈l∨v∈t.vl)∧(l.Nodup→(t.vars l).Nodup)∧∃m,t.vars l=l++m:=by
 induction t using Tm.ind with
 | h k n s ts ih=>
  intro h l
  obtain⟨hk,hw⟩:=Tm.UQ h
  have list:∀xs:List Tm,(∀x∈xs,x∈ts)→∀l:List Int,(∀v,v∈aY xs l↔v∈l∨∃x∈xs,v∈x.vl)∧(l.Nodup→(aY xs l).Nodup)∧∃m,aY xs l=l++m:=by
   intro xs
   induction xs with
   | nil=>intro _ l;exact⟨by simp [aY],fun h=>h,[],by simp [aY]⟩
   | cons x xs ihx=>
    intro hs l
    obtain⟨a1,a2,m1,a3⟩:=ih x (hs x (by simp)) (hw x (hs x (by simp))) l
    obtain⟨b1,b2,m2,b3⟩:=ihx (fun y hy=>hs y (by simp [hy])) (x.vars l)
    simp only[aY]
    refine⟨fun v=>?_,fun hn=>b2 (a2 hn),m1++m2,by rw[b3,a3,nP]⟩
    rw[b1,a1]
    simp [or_assoc]
  rw[Tm.vars]
  by_cases hk1:k=1
  · obtain rfl:=hk hk1
    rw[Tm.mU hk1]
    simp only[aY]
    split
    · rename_i hc
      refine⟨fun v=>by simp,fun hn=>?_,[n],rfl⟩
      rw[tY]
      refine⟨hn,by simp,fun x hx y hy e=>?_⟩
      simp only[c8,dP,dX] at hy
      subst hy e
      exact hc.2 hx
    · rename_i hc
      refine⟨fun v=>?_,fun hn=>hn,[],by simp⟩
      have hm:n∈l:=xB fun h=>hc ⟨hk1,h⟩
      simp only[c8,dP,dX]
      exact⟨.inl,fun h=>h.elim id fun e=>e▸hm⟩
  · rw[aF (by simp [hk1])]
    obtain⟨c1,c2,c3⟩:=list ts (fun _ h=>h) l
    exact⟨fun v=>by rw[c1,Tm.kV hk1],c2,c3⟩
theorem Tm.a7T{v:Int}:∀(t:Tm) (l:List Int),t.cv=true→(v∈t.vars l↔v∈l∨v∈t.vl):=by
 intro t
 induction t using Tm.ind with
 | h k n s ts ih=>
  intro l hcv
  obtain⟨h1,h2⟩:=Tm.lU.1 hcv
  have key:∀(ts:List Tm) (l:List Int),(∀t∈ts,∀l,v∈t.vars l↔v∈l∨v∈t.vl)→(v∈aY ts l↔v∈l∨∃t∈ts,v∈t.vl):=by
   intro ts
   induction ts with
   | nil=>intro l _;simp [aY]
   | cons t ts iht=>
    intro l h
    simp only[aY]
    rw[iht _ (fun x hx=>h x (by simp [hx])),h t (by simp)]
    simp [or_assoc]
  simp only[Tm.vars]
  rw[key ts _ (fun t ht l=>ih t ht l (h2 t ht))]
  by_cases hk:k=1
  · obtain⟨rfl,rfl⟩:=h1 hk
    rw[Tm.mU hk]
    by_cases hn:n∈l
    · simp [hk,hn];exact fun e=>e▸hn
    · simp [hk,hn]
  · rw[Tm.kV hk];simp [hk]
theorem tP{v:Int}:∀(ts:List Tm) (l:List Int),(∀t∈ts,t.cv=true)→(v∈aY ts l↔v∈l∨∃t∈ts,v∈t.vl)
 | [],l,_=>by simp [aY]
 | t::ts,l,h=>by
  simp only[aY]
  rw[tP ts _ (fun x hx=>h x (by simp [hx])),Tm.a7T t l (h t (by simp))]
  simp [or_assoc]
theorem a7W{σ:Sub}{R:Int→Tm}{rk:Int→Nat}{B:Nat}(G:Good σ R rk B){n:Int}{W:List Int}(hW:∀w∈W,w≠n∧∀u,σ w=some u→∀v∈u.vl,v∈W):∀w∈W,n∉(R w).vl:=by
 refine fun w=>G.ind (p:=fun w=>w∈W→n∉(R w).vl) (fun w h hw hm=>?_) (fun w u h ih hw hm=>?_) w
 · rw[G.free h,zA] at hm
   simp only[c8,dP,dX] at hm
   exact(hW w hw).1 hm.symm
 · rw[G.bound h] at hm
   obtain⟨v,hv,hnv⟩:=(y9 u).1 hm
   exact ih v hv ((hW w hw).2 u h v hv) hnv
theorem aZC{w:Nat}{l:List AV}{i:Nat}{e:AV}(hw:∀e∈l,e.width=w)(h:l[i]?=some e) :
 ∃A B,l.flatMap AV.cells=A++e.cells++B∧A.length=i*w∧∀e',(l.set i e').flatMap AV.cells=A++e'.cells++B:=by
 obtain⟨hi,he⟩:=gS.1 h
 refine⟨(l.take i).flatMap AV.cells,(l.drop (i+1)).flatMap AV.cells,?_,?_,fun e'=>?_⟩
 · have:l=l.take i++e::l.drop (i+1):=by rw[←he,←rF hi,sL]
   conv=>lhs;rw[this]
   simp
 · rw[pE (fun e he=>hw e (lB he)),dC,lP (by omega)]
 · rw[List.set_eq_take_append_cons_drop,aJ hi]
   simp
def cellOf:Option Tm→AV
 | some u=>u.av
 | none=>zt
theorem J7(o:Option Tm):(cellOf o).width=4:=by cases o<;>first | rfl | exact aH _
theorem aVY(o:Option Tm):(cellOf o).cells.length=4:=by rw[vT,J7]
theorem G8:∀t:Tm,t.cv=true→t.aG vr=t:=by
 intro t
 induction t using Tm.ind with
 | h k n s ts ih=>
  intro h
  obtain⟨h1,h2⟩:=Tm.lU.1 h
  by_cases hk:k=1
  · obtain⟨rfl,rfl⟩:=h1 hk
    rw[Tm.kI vr hk,hk];try rfl
  · rw[Tm.i8 vr hk]
    congr 1
    have:∀l:List Tm,(∀x∈l,x∈ts)→l.map (Tm.aG vr)=l:=by
     intro l
     induction l with
     | nil=>intro _;rfl
     | cons x l ihl=>intro hl;rw[aZ,ih x (hl x (by simp)) (h2 x (hl x (by simp))),ihl fun y hy=>hl y (by simp [hy])]
    exact this ts fun _ h=>h
theorem a3A{f g:Int→Tm}:∀t:Tm,t.aG f=t.aG g→∀v∈t.vl,f v=g v:=by
 intro t
 induction t using Tm.ind with
 | h k n s ts ih=>
  intro h v hv
  by_cases hk:k=1
  · rw[Tm.kI f hk,Tm.kI g hk] at h
    rw[Tm.mU hk] at hv
    simp only[c8,dP,dX] at hv
    rw[hv];exact h
  · rw[Tm.i8 f hk,Tm.i8 g hk] at h
    injection h with _ _ _ h4
    obtain⟨x,hx,hvx⟩:=(Tm.kV hk).1 hv
    obtain⟨i,hi⟩:=List.mem_iff_getElem?.1 hx
    have:=fE (fun l=>l[i]?) h4
    simp only[mD,hi,oZ,Option.some.injEq] at this
    exact ih x hx this v hvx
def HL(t:Tm):Tm:=t.aG fun v=>vr (d4 v (t.vars []) 0)
def kJ(l:List Tm):List Tm:=l.map fun t=>t.aG fun v=>vr (d4 v (aY l []) 0)
theorem aPR{D:Int→Prop}{h:Int→Int}(inj:∀v w,D v→D w→h v=h w→v=w){f:Int→Tm}(hf:∀v,D v→f v=vr (h v)) :
 ∀(t:Tm),t.wf=true→(∀v∈t.vl,D v)→∀l:List Int,(∀v∈l,D v)→(t.aG f).vars (l.map h)=(t.vars l).map h∧∀v∈t.vars l,D v:=by
 intro t
 induction t using Tm.ind with
 | h k n s ts ih=>
  intro hw hD l hl
  obtain⟨hk1,hws⟩:=Tm.UQ hw
  by_cases hk:k=1
  · obtain rfl:=hk1 hk
    have hDn:D n:=hD n (by rw[Tm.mU hk];simp)
    have gO:h n∈l.map h↔n∈l:=by
     rw[cI]
     exact⟨fun⟨m,hm,e⟩=>by rw[←inj m n (hl m hm) hDn e];exact hm,fun hm=>⟨n,hm,rfl⟩⟩
    rw[Tm.kI f hk,hf n hDn,vr,Tm.vars,Tm.vars]
    simp only[aY,hk,tQ,gO]
    split
    · exact⟨by simp,fun v hv=>by
       rcases fQ.1 hv with hv | hv
       · exact hl v hv
       · simp only[c8,dP,dX] at hv;rw[hv];exact hDn⟩
    · exact⟨rfl,hl⟩
  · rw[Tm.i8 f hk,Tm.vars,Tm.vars,aF (fun h=>hk h.1),aF (fun h=>hk h.1)]
    have:∀xs:List Tm,(∀x∈xs,x∈ts)→∀l:List Int,(∀v∈l,D v)→aY (xs.map (Tm.aG f)) (l.map h)=(aY xs l).map h∧∀v∈aY xs l,D v:=by
     intro xs
     induction xs with
     | nil=>intro _ l hl;exact⟨rfl,hl⟩
     | cons x xs ihx=>
      intro hs l hl
      have hx:=hs x (by simp)
      obtain⟨e1,e2⟩:=ih x hx (hws x hx) (fun v hv=>hD v ((Tm.kV hk).2 ⟨x,hx,hv⟩)) l hl
      simp only[aZ,aY]
      rw[e1]
      exact ihx (fun y hy=>hs y (by simp [hy])) _ e2
    exact this ts (fun _ h=>h) l hl
theorem RJ{D:Int→Prop}{h:Int→Int}(inj:∀v w,D v→D w→h v=h w→v=w)(v:Int)(hv:D v):∀(l:List Int) (i:Int),(∀w∈l,D w)→d4 (h v) (l.map h) i=d4 v l i
 | [],i,_=>rfl
 | x::l,i,hl=>by
  simp only[aZ,d4]
  by_cases e:v=x
  · rw[aJ e,aJ (by rw[e])]
  · rw[aF e,aF (fun e2=>e (inj v x hv (hl x (by simp)) e2))]
    exact RJ inj v hv l (i+1) fun w hw=>hl w (by simp [hw])
theorem variant{x y:Tm}{f g:Int→Tm}(hx:x.cv=true)(hf:∀v∈x.vl,(f v).cv=true)(e1:y=x.aG f)(e2:x=y.aG g):HL x=HL y:=by
 have h1:∀v∈x.vl,(f v).aG g=vr v:=by
  have:x.aG (fun v=>(f v).aG g)=x.aG vr:=by rw[←tG,←e1,←e2,G8 x hx]
  exact a3A x this
 have h2:∀v∈x.vl,f v=vr (f v).n:=fun v hv=>by
  refine Tm.aWD (hf v hv) (xB fun hk=>?_)
  have:=h1 v hv
  rw[Tm.qR g hk] at this
  have:=fE Tm.k this
  exact hk this
 have inj:∀v w,v∈x.vl→w∈x.vl→(f v).n=(f w).n→v=w:=fun v w hv hw e=>by
  have:=h1 v hv
  rw[h2 v hv,e,←h2 w hw,h1 w hw] at this
  have:=fE Tm.n this
  exact this.symm
 obtain⟨a1,a2⟩:=aPR (D:=fun v=>v∈x.vl) (h:=fun v=>(f v).n) inj (f:=f) h2 x (Tm.rS x hx) (fun _ h=>h) [] (fun v h=>by cases h)
 have a1':y.vars []=(x.vars []).map fun v=>(f v).n:=by rw[e1];exact a1
 unfold HL
 conv=>rhs;rw[e1]
 rw[tG]
 refine n6 x fun v hv=>?_
 have:(fun w=>vr (d4 w ((x.aG f).vars []) 0))=fun w=>vr (d4 w (y.vars []) 0):=by rw[←e1]
 rw[h2 v hv,tH,←e1,a1',RJ (D:=fun v=>v∈x.vl) (h:=fun v=>(f v).n) inj v hv (x.vars []) 0 a2]
def qA:List ByteArray:=[⟨#[43]⟩,⟨#[45]⟩,⟨#[42]⟩,⟨#[47,47]⟩,⟨#[109,111,100]⟩]
def rQ:List ByteArray:=[⟨#[60]⟩,⟨#[62]⟩,⟨#[61,60]⟩,⟨#[62,61]⟩,⟨#[61,58,61]⟩]
def gC(l:List ByteArray)(s:ByteArray):Bool:=l.any fun x=>decide (s=x)
def jA(n:Int):Int×Int:=if -999≤n∧n≤999 then(n,0) else(0,5)
def qF(a b:Int):Int:=if a.tmod b≠0∧decide (a.tmod b<0)≠decide (b<0) then a.tmod b+b else a.tmod b
def rM(s:ByteArray)(a b:Int):Int×Int:=
 if s=⟨#[43]⟩ then jA (a+b) else if s=⟨#[45]⟩ then jA (a - b) else if s=⟨#[42]⟩ then jA (a*b) else if b=0 then(0,4) else if s=⟨#[109,111,100]⟩ then(qF a b,0) else(a.tdiv b,0)
def both(f:Int→Int→Int×Int)(x y:Int×Int):Int×Int:=if x.2≠0 then(0,x.2) else if y.2≠0 then(0,y.2) else f x.1 y.1
def two(f:Int→Int→Int×Int):List (Int×Int)→Int×Int
 | [x,y]=>both f x y
 | _=>(0,3)
mutual
def Tm.ev:Tm→Int×Int
 | .mk k n s ts=>if k=2 then(n,0) else if k=1 then(0,2) else if gC qA s=true then two (rM s) (MW ts) else(0,3)
def MW:List Tm→List (Int×Int)
 | []=>[]
 | t::ts=>t.ev::MW ts
end
theorem aO0:∀ts:List Tm,MW ts=ts.map Tm.ev
 | []=>rfl
 | t::ts=>by simp only[MW,aZ,aO0 ts]
theorem Tm.x6(k n:Int)(s:ByteArray)(ts:List Tm):(Tm.mk k n s ts).ev=if k=2 then(n,0) else if k=1 then(0,2) else if gC qA s=true then two (rM s) (ts.map Tm.ev) else(0,3):=by simp only[Tm.ev,aO0]
theorem MT(a b:Int)(hb:b≠0):(0<b→-b<a.tmod b∧a.tmod b<b)∧(b<0→b<a.tmod b∧a.tmod b< -b):=by
 have h1:=NN (-a) (b:=b)
 have h2:=NN a (b:=b)
 have h3:=NN (-a) (b:= -b)
 have h4:=NN a (b:= -b)
 rw[Int.tmod_neg] at h3 h4
 rw[Int.neg_tmod] at h1 h3
 constructor
 · intro h;exact⟨by have:=h1 h;omega,h2 h⟩
 · intro h;exact⟨by have:=h3 (by omega);omega,h4 (by omega)⟩
theorem tdiv_le(a b:Int)(ha: -999≤a∧a≤999): -999≤a.tdiv b∧a.tdiv b≤999:=by
 have:(a.tdiv b).natAbs≤a.natAbs:=by rw[Int.natAbs_tdiv];exact Nat.div_le_self _ _
 omega
theorem SR(n:Int): -999≤(jA n).1∧(jA n).1≤999:=by unfold jA;split<;>simp_all
theorem aJQ(a b:Int)(ha: -999≤a∧a≤999)(hb: -999≤b∧b≤999)(h0:b≠0): -999≤qF a b∧qF a b≤999:=by
 have h1:=MT a b h0
 unfold qF
 split
 · rename_i h
   have h2:=h.2
   by_cases hb':b<0
   · have:¬a.tmod b<0:=by intro hc;simp [hb',hc] at h2
     have:=h1.2 hb'
     omega
   · have:a.tmod b<0:=by
      apply xB;intro hc;simp [hb',hc] at h2
     have:=h1.1 (by omega)
     omega
 · rcases Int.lt_or_gt_of_ne h0 with h | h
   · have:=h1.2 h;omega
   · have:=h1.1 h;omega
theorem WE(m b:Int)(h1:0≤m)(h2:m<b):(m+b).tmod b=m:=by
 obtain⟨x,rfl⟩:∃x:Nat,m=x:=⟨m.toNat,by omega⟩
 obtain⟨y,rfl⟩:∃y:Nat,b=y:=⟨b.toNat,by omega⟩
 rw[show(x:Int)+(y:Int)=((x+y:Nat):Int) by omega,←Int.ofNat_tmod,Nat.add_mod_right,Nat.mod_eq_of_lt (by omega)]
theorem aZD(a b:Int)(h0:b≠0):(a.tmod b+b).tmod b=qF a b:=by
 have h1:=MT a b h0
 have hs:∀x:Int,0≤x→x<b→x.tmod b=x:=fun x h2 h3=>Int.tmod_eq_of_lt h2 h3
 have hn:∀x:Int,x≤0→b<x→x.tmod b=x:=fun x h2 h3=>by
  have:=Int.tmod_eq_of_lt (a:= -x) (b:= -b) (by omega) (by omega)
  rw[Int.tmod_neg,Int.neg_tmod] at this
  omega
 unfold qF
 generalize a.tmod b=m at *
 by_cases hb:b<0
 · have h2:=h1.2 hb
   by_cases hm:m<0
   · rw[aF (by simp [hb,hm])]
     rw[show m+b=b+m by omega]
     have e:(b+m).tmod b=((-b)+(-m)).tmod (-b)*(-1):=by
      rw[show(-b)+(-m)= -(b+m) by omega,Int.neg_tmod,Int.tmod_neg];omega
     rw[e,Int.add_comm,WE (-m) (-b) (by omega) (by omega)]
     omega
   · by_cases hm0:m=0
     · subst hm0;rw[aF (by simp),Int.zero_add,Int.tmod_self]
     · rw[aJ ⟨hm0,by simp [hb,hm]⟩]
       exact hn _ (by omega) (by omega)
 · have h2:=h1.1 (by omega)
   by_cases hm:m<0
   · rw[aJ ⟨by omega,by simp [hb,hm]⟩]
     exact hs _ (by omega) (by omega)
   · rw[aF (by simp [hb,hm])]
     rw[WE m b (by omega) (by omega)]
def cM(N:Int)(t:Tm):Prop:=(t.aG fun _=>vr 0).jY=true∧t.cv=true∧∀v∈t.vl,0≤v∧v<N
theorem cM.mono{N M:Int}{t:Tm}(h:cM N t)(hm:N≤M):cM M t:=⟨h.1,h.2.1,fun v hv=>⟨(h.2.2 v hv).1,by have:=(h.2.2 v hv).2;omega⟩⟩
theorem cM.own{N k n:Int}{s:ByteArray}{ts:List Tm}(h:cM N (.mk k n s ts))(hk:k≠1):eK k n s ts.length=true∧∀x∈ts,cM N x:=by
 obtain⟨h1,h2,h3⟩:=h
 rw[Tm.i8 _ hk] at h1
 obtain⟨h4,h5⟩:=Tm.LS h1
 rw[aE] at h4
 exact⟨h4,fun x hx=>⟨h5 _ (cI.2 ⟨x,hx,rfl⟩),(Tm.lU.1 h2).2 x hx,fun v hv=>h3 v ((Tm.kV hk).2 ⟨x,hx,hv⟩)⟩⟩
theorem cM.var{N n:Int}{s:ByteArray}{ts:List Tm}(h:cM N (.mk 1 n s ts)):0≤n∧n<N∧s=⟨#[]⟩∧ts= []:=by
 obtain⟨_,h2,h3⟩:=h
 obtain⟨h4,h5⟩:=(Tm.lU.1 h2).1 rfl
 obtain⟨h6,h7⟩:=h3 n (by rw[Tm.mU rfl];simp)
 exact⟨h6,h7,h4,h5⟩
theorem LT(N:Int):∀t:Tm,t.k≠1→cM N t→∀x∈t.ts,cM N x:=fun t hk h x hx=>by
 cases t
 exact(h.own hk).2 x hx
theorem cM.kind{N k n:Int}{s:ByteArray}{ts:List Tm}(h:cM N (.mk k n s ts)):(k=1∨k=2∨k=3)∧ts.length≤4:=by
 by_cases hk:k=1
 · subst hk
   rw[h.var.2.2.2]
   simp
 · have:=a3X (h.own hk).1
   omega
theorem a3W{n:Int}{s:ByteArray}{len:Int}(h:eK 2 n s len=true): -999≤n∧n≤999:=by
 simp [eK] at h
 omega
theorem cM.all{N k n:Int}{s:ByteArray}{ts:List Tm}(h:cM N (.mk k n s ts)):(k=2→-999≤n∧n≤999)∧∀x∈ts,cM N x:=by
 by_cases hk:k=1
 · subst hk
   rw[h.var.2.2.2]
   simp
 · obtain⟨h1,h2⟩:=h.own hk
   refine⟨fun h2=>?_,h2⟩
   subst h2
   exact a3W h1
theorem cM.small{N:Int}:∀ {t:Tm},cM N t→t.small=true:=by
 intro t
 induction t using Tm.ind with
 | h k n s ts ih=>
  intro h
  have h4:=h.kind.2
  simp only[Tm.small,ET,cB,bO,dQ]
  refine⟨by omega,fun x hx=>?_⟩
  by_cases hk:k=1
  · subst hk;rw[h.var.2.2.2] at hx;cases hx
  · exact ih x hx ((h.own hk).2 x hx)
theorem cM.aG{N M:Int}{f:Int→Tm}{t:Tm}(h:cM N t)(hf:∀v∈t.vl,cM M (f v)):cM M (t.aG f):=by
 induction t using Tm.ind with
 | h k n s ts ih=>
  by_cases hk:k=1
  · rw[Tm.kI f hk];exact hf n (by rw[Tm.mU hk];simp)
  · obtain⟨h1,h2⟩:=h.own hk
    have key:∀x∈ts,cM M (x.aG f):=fun x hx=>ih x hx (h2 x hx) fun v hv=>hf v ((Tm.kV hk).2 ⟨x,hx,hv⟩)
    rw[Tm.i8 f hk]
    refine⟨?_,Tm.lU.2 ⟨fun h=>absurd h hk,fun y hy=>?_⟩,fun v hv=>?_⟩
    · rw[Tm.i8 _ hk,Tm.A3,aE,aE,h1,dU,dQ]
      intro y hy
      simp only[rI,cI,E0] at hy
      obtain⟨x,hx,rfl⟩:=hy
      exact(key x hx).1
    · obtain⟨x,hx,rfl⟩:=cI.1 hy
      exact(key x hx).2.1
    · obtain⟨y,hy,hv⟩:=(Tm.kV hk).1 hv
      obtain⟨x,hx,rfl⟩:=cI.1 hy
      exact(key x hx).2.2 v hv
theorem HB{N n:Int}(h0:0≤n)(h1:n<N):cM N (vr n):=by
 refine⟨by rw[tH];exact aPV (G9.2 (by omega)),Tm.lU.2 ⟨fun _=>⟨rfl,rfl⟩,by simp⟩,fun v hv=>?_⟩
 rw[zA] at hv
 simp only[c8,dP,dX] at hv
 omega
theorem aMA{t:Tm}:t.jY=true↔cM 26 t:=by
 constructor
 · intro h
   refine⟨a3B t h fun v _=>aPV (G9.2 (by omega)),Tm.a3N t h,fun v hv=>?_⟩
   have:=G9.1 (Tm.a3O t h v hv)
   omega
 · induction t using Tm.ind with
   | h k n s ts ih=>
    intro h
    rw[Tm.A3]
    by_cases hk:k=1
    · subst hk
      obtain⟨h0,h1,rfl,rfl⟩:=h.var
      have h1':n≤25:=by omega
      simp [eK,h0,h1']
    · obtain⟨h1,h2⟩:=h.own hk
      rw[h1,dU,dQ]
      exact fun x hx=>ih x hx (h2 x hx)
theorem Tm.IV{t:Tm}(h:t.valid=true):cM 26 t:=aMA.1 (Tm.a7R h)
theorem Good.lY{σ:Sub}{R:Int→Tm}{rk:Int→Nat}{B:Nat}(G:Good σ R rk B){N:Int}(ho:cV (cM N) σ):∀n,0≤n→n<N→cM N (R n):=by
 refine fun n=>G.ind (p:=fun n=>0≤n→n<N→cM N (R n)) (fun n h h0 h1=>?_) (fun n u h ih h0 h1=>?_) n
 · rw[G.free h];exact HB h0 h1
 · rw[G.bound h]
   exact(ho n u h).aG fun v hv=>ih v hv ((ho n u h).2.2 v hv).1 ((ho n u h).2.2 v hv).2
theorem Good.R6{σ:Sub}{R:Int→Tm}{rk:Int→Nat}{B:Nat}(G:Good σ R rk B){N:Int}(ho:cV (cM N) σ){t:Tm}(h:cM N t):cM N (t.aG R):=
 h.aG fun v hv=>G.lY ho v (h.2.2 v hv).1 (h.2.2 v hv).2
def bG(N:Int)(t:Tm):Prop:=cM N t∧t.nodes≤120
theorem qS(N:Int):∀t:Tm,t.k≠1→bG N t→∀x∈t.ts,bG N x:=fun t hk h x hx=>by
 refine⟨LT N t hk h.1 x hx,?_⟩
 have h2:=h.2
 cases t
 rw[Tm.gK] at h2
 have:=HQ (f:=Tm.nodes) hx
 simp only[Tm.ts] at this
 omega
theorem bG.mono{N M:Int}{t:Tm}(h:bG N t)(hm:N≤M):bG M t:=⟨h.1.mono hm,h.2⟩
theorem cV.lY{N:Int}{σ:Sub}(h:cV (bG N) σ):cV (cM N) σ:=fun n u e=>(h n u e).1
theorem cV.imp{p q:Tm→Prop}{σ:Sub}(h:cV p σ)(hpq:∀t,p t→q t):cV q σ:=fun n u e=>hpq u (h n u e)
open Classical in
noncomputable def jE(σ:Sub)(a b:Tm):Bool×Sub×List Int:=if h:∃x g,dF g σ a b=some x then h.choose else(false,σ,[])
theorem aPJ{g:Nat}{σ:Sub}{a b:Tm}{x:Bool×Sub×List Int}(h:dF g σ a b=some x):jE σ a b=x:=by
 unfold jE
 have h':∃x g,dF g σ a b=some x:=⟨x,g,h⟩
 rw[dif_pos h']
 obtain⟨g',h''⟩:=h'.choose_spec
 exact a7K h'' h
def VN(N:Nat):List Int:=(List.range N).map fun i:Nat=>(i:Int)
theorem wL{N:Nat}{n:Int}:n∈VN N↔0≤n∧n<N:=by
 simp only[VN,cI,vC]
 constructor
 · rintro⟨i,h,rfl⟩;omega
 · intro h;exact⟨n.toNat,by omega,by omega⟩
theorem DY{N:Nat}{tr:List Int}(h:tr.Nodup)(hV:∀m∈tr,0≤m∧m<N):tr.length≤N:=by
 have:=aL0 (V:=VN N) h fun x hx=>wL.2 (hV x hx)
 simpa [VN] using this
structure zO (N:Int) (σ:Sub) (a b:Tm) (r:Bool) (σ':Sub) (tr:List Int):Prop where
 run:∃g,dF g σ a b=some (r,σ',tr)
 eq:jE σ a b=(r,σ',tr)
 nN:oD σ [a] [b] r σ' tr
 ok:cV (bG N) σ'
 gC:∀m∈tr,0≤m∧m<N
theorem tS{N:Nat}{σ:Sub}{a b:Tm}(hg:cS σ)(ho:cV (bG N) σ)(ha:bG N a)(hb:bG N b):∃r σ' tr,zO N σ a b r σ' tr:=by
 have hin:∀ {t:Tm},bG N t→iX (VN N) t:=fun h v hv=>wL.2 (h.1.2.2 v hv)
 have hr:mE (VN N) σ:=fun n u e=>hin (ho n u e)
 obtain⟨g,⟨r,σ',tr⟩,h⟩:=a7M (VN N) _ _ σ a b hg hr (hin ha) (hin hb) (cZ _) (cZ _)
 obtain⟨h1,h2⟩:=(aPK g).1 σ a b r σ' tr (VN N) hg h hr (hin ha) (hin hb)
 exact⟨r,σ',tr,⟨g,h⟩,aPJ h,w4 hg h,(ND (qS N) g).1 σ a b r σ' tr hg h ho ha hb,fun m hm=>wL.1 (h2 m hm)⟩
theorem zO.out{N:Int}{σ:Sub}{a b:Tm}{r:Bool}{σ':Sub}{tr:List Int}(h:zO N σ a b r σ' tr)(n:Int):(if n∈tr then none else σ' n)=σ n:=by
 split
 · rename_i hn;exact((h.nN.new n hn).1).symm
 · rename_i hn;exact h.nN.bB n hn
def Sub.out(σ:Sub)(l:List Int):Sub:=fun n=>if n∈l then Option.none else σ n
theorem Sub.a3U(σ:Sub)(l m:List Int):(σ.out l).out m=σ.out (l++m):=by
 funext n
 unfold Sub.out
 by_cases h1:n∈m
 · rw[aJ h1,aJ (by simp [h1])]
 · rw[aF h1]
   by_cases h2:n∈l
   · rw[aJ h2,aJ (by simp [h2])]
   · rw[aF h2,aF (by simp [h1,h2])]
theorem Sub.a3V(σ:Sub){l m:List Int}(h:∀n,n∈l↔n∈m):σ.out l=σ.out m:=by
 funext n
 unfold Sub.out
 simp only[h n]
def bV(ρ:Int→Int)(t:Tm):Tm:=t.aG fun v=>vr (ρ v)
theorem a4S(ρ:Int→Int)(n:Int):bV ρ (vr n)=vr (ρ n):=tH _ n
theorem wR(ρ:Int→Int){k n:Int}{s:ByteArray}{ts:List Tm}(h:k≠1):bV ρ (.mk k n s ts)=.mk k n s (ts.map (bV ρ)):=Tm.i8 _ h
theorem yN(ρ:Int→Int){t:Tm}(h:t.k=1):bV ρ t=vr (ρ t.n):=Tm.DW _ h
theorem EA(ρ:Int→Int){t:Tm}(h:t.k≠1):bV ρ t=.mk t.k t.n t.s (t.ts.map (bV ρ)):=Tm.qR _ h
theorem yM(ρ:Int→Int)(t:Tm):(bV ρ t).k=t.k:=by
 by_cases h:t.k=1
 · rw[yN ρ h,h];try rfl
 · rw[EA ρ h];try rfl
theorem L4(ρ:Int→Int){t:Tm}(hc:t.cv=true):(bV ρ t).nodes=t.nodes:=by
 induction t using Tm.ind with
 | h k n s ts ih=>
  obtain⟨h1,h2⟩:=Tm.lU.1 hc
  by_cases hk:k=1
  · obtain⟨_,rfl⟩:=h1 hk
    rw[yN ρ (t:=.mk k n s []) hk,vr,Tm.gK,Tm.gK]
  · rw[wR ρ hk,Tm.gK,Tm.gK]
    congr 1
    have:∀l:List Tm,(∀x∈l,x∈ts)→bK Tm.nodes (l.map (bV ρ))=bK Tm.nodes l:=by
     intro l
     induction l with
     | nil=>intro _;rfl
     | cons x l ihl=>intro h;simp only[aZ,bK];rw[ih x (h x (by simp)) (h2 x (h x (by simp))),ihl fun y hy=>h y (by simp [hy])]
    exact this ts fun _ h=>h
theorem SU(ρ:Int→Int){t:Tm}(hc:t.cv=true):∀d,(bV ρ t).flat d=t.flat d:=by
 induction t using Tm.ind with
 | h k n s ts ih=>
  intro d
  obtain⟨h1,h2⟩:=Tm.lU.1 hc
  cases d with
  | zero=>rw[Tm.GF,Tm.GF]
  | succ d=>
   by_cases hk:k=1
   · obtain⟨_,rfl⟩:=h1 hk
     rw[yN ρ (t:=.mk k n s []) hk,vr,Tm.v6,Tm.v6]
   · rw[wR ρ hk,Tm.v6,Tm.v6,List.all_map]
     rw[u9,dQ,dQ]
     constructor
     · intro h x hx;rw[←ih x hx (h2 x hx) d];exact h x hx
     · intro h x hx;simp only[E0];rw[ih x hx (h2 x hx) d];exact h x hx
theorem a7V{ρ:Int→Int}{t:Tm}{w:Int}:w∈(bV ρ t).vl↔∃v∈t.vl,w=ρ v:=by
 unfold bV
 rw[y9]
 simp only[zA,c8,dP,dX]
theorem ST{ρ ρ':Int→Int}{t:Tm}(h:∀v∈t.vl,ρ v=ρ' v):bV ρ t=bV ρ' t:=n6 t fun v hv=>by rw[h v hv]
theorem HK(ρ:Int→Int)(f:Int→Tm)(t:Tm):(bV ρ t).aG f=t.aG fun v=>f (ρ v):=by
 unfold bV
 rw[tG]
 exact n6 t fun v _=>tH f (ρ v)
theorem aLV(ρ:Int→Int)(f:Int→Tm)(t:Tm):bV ρ (t.aG f)=t.aG fun v=>bV ρ (f v):=by
 unfold bV
 rw[tG]
theorem cM.bV{N M:Int}{ρ:Int→Int}{t:Tm}(h:cM N t)(hr:∀v∈t.vl,0≤ρ v∧ρ v<M):cM M (AW.bV ρ t):=h.aG fun v hv=>HB (hr v hv).1 (hr v hv).2
theorem bG.bV{N M:Int}{ρ:Int→Int}{t:Tm}(h:bG N t)(hr:∀v∈t.vl,0≤ρ v∧ρ v<M):bG M (AW.bV ρ t):=⟨h.1.bV hr,by rw[L4 ρ h.1.2.1];exact h.2⟩
structure fM (ρ:Int→Int) (N:Int) (σ τ:Sub):Prop where
 inj:∀v w,0≤v→v<N→0≤w→w<N→ρ v=ρ w→v=w
 map:∀v,0≤v→v<N→τ (ρ v)=(σ v).map (bV ρ)
section
variable {ρ:Int→Int} {N:Int} {σ τ:Sub}
theorem fM.wk(S:fM ρ N σ τ)(ho:cV (cM N) σ){f:Nat}{t u:Tm}(h:f0 σ f t u):cM N t→f0 τ f (bV ρ t) (bV ρ u):=by
 induction h with
 | @stop t h=>
  intro ht
  refine .stop fun hk=>?_
  rw[yM] at hk
  have hr:=ht.2.2 t.n (by rw[Tm.EX hk];simp)
  rw[yN ρ hk]
  show τ (ρ t.n)=none
  rw[S.map _ hr.1 hr.2,h hk];try rfl
 | @go f t u v h1 h2 _ ih=>
  intro ht
  have hr:=ht.2.2 t.n (by rw[Tm.EX h1];simp)
  refine .go (u:=bV ρ u) (by rw[yM];exact h1) ?_ (ih (ho _ _ h2))
  rw[yN ρ h1]
  show τ (ρ t.n)=_
  rw[S.map _ hr.1 hr.2,h2];try rfl
theorem fM.rs(S:fM ρ N σ τ)(hg:cS σ)(hg':cS τ)(ho:cV (cM N) σ):∀v,0≤v→v<N→rs τ (ρ v)=bV ρ (rs σ v):=by
 obtain⟨rk,B,G⟩:=hg.rs
 obtain⟨rk',B',G'⟩:=hg'.rs
 refine fun v=>G.ind (p:=fun v=>0≤v→v<N→AW.rs τ (ρ v)=bV ρ (AW.rs σ v)) (fun v h h0 h1=>?_) (fun v u h ih h0 h1=>?_) v
 · rw[G.free h,a4S,G'.free (by rw[S.map v h0 h1,h];try rfl)]
 · rw[G.bound h,aLV,G'.bound (u:=bV ρ u) (by rw[S.map v h0 h1,h];try rfl),HK]
   refine n6 u fun w hw=>?_
   have:=(ho v u h).2.2 w hw
   exact ih w hw this.1 this.2
theorem fM.rsT(S:fM ρ N σ τ)(hg:cS σ)(hg':cS τ)(ho:cV (cM N) σ){t:Tm}(ht:cM N t):(bV ρ t).aG (AW.rs τ)=bV ρ (t.aG (AW.rs σ)):=by
 rw[HK,aLV]
 exact n6 t fun v hv=>S.rs hg hg' ho v (ht.2.2 v hv).1 (ht.2.2 v hv).2
theorem fM.mem(S:fM ρ N σ τ){t:Tm}(ht:cM N t){n:Int}(h0:0≤n)(h1:n<N):ρ n∈(bV ρ t).vl↔n∈t.vl:=by
 rw[a7V]
 constructor
 · rintro⟨v,hv,e⟩
   rw[S.inj n v h0 h1 (ht.2.2 v hv).1 (ht.2.2 v hv).2 e];exact hv
 · exact fun h=>⟨n,h,rfl⟩
theorem fM.set(S:fM ρ N σ τ){n:Int}(h0:0≤n)(h1:n<N)(t:Tm):fM ρ N (σ.set n t) (τ.set (ρ n) (bV ρ t)):=by
 refine⟨S.inj,fun v hv0 hv1=>?_⟩
 unfold Sub.set
 by_cases h:v=n
 · subst h;simp
 · rw[aF (fun e=>h (S.inj v n hv0 hv1 h0 h1 e)),aF h,S.map v hv0 hv1]
theorem fM.j9(S:fM ρ N σ τ)(hg:cS σ)(hg':cS τ)(ho:cV (cM N) σ){n:Int}(h0:0≤n)(h1:n<N){t:Tm}(ht:cM N t){r:Bool}{σ':Sub}{tr:List Int}(h:j9 σ n t=(r,σ',tr)) :
 ∃τ',AW.j9 τ (ρ n) (bV ρ t)=(r,τ',tr.map ρ)∧fM ρ N σ' τ':=by
 obtain⟨rk,B,G⟩:=hg.rs
 have e:=S.mem (G.R6 ho ht) h0 h1
 rw[←S.rsT hg hg' ho ht] at e
 unfold AW.j9 at h ⊢
 by_cases hm:n∈(t.aG (AW.rs σ)).vl
 · rw[aJ hm] at h
   rw[aJ (e.2 hm)]
   cases h
   exact⟨τ,rfl,S⟩
 · rw[aF hm] at h
   rw[aF (fun h=>hm (e.1 h))]
   cases h
   exact⟨_,rfl,S.set h0 h1 t⟩
theorem aKL{a b:Tm}(ha:a.k≠1)(hb:b.k≠1):uK (bV ρ a) (bV ρ b)=uK a b:=by
 obtain⟨k,n,s,ts⟩:=a
 obtain⟨k',n',s',ts'⟩:=b
 simp only[Tm.k] at ha hb
 rw[wR ρ ha,wR ρ hb,u9,tB,tB]
 simp only[Tm.k,Tm.n,Tm.s,Tm.ts,aE]
theorem fM.aPY(S:fM ρ N σ τ)(hg:cS σ)(ho:cV (cM N) σ){t:Tm}(ht:cM N t):AW.wk τ (bV ρ t)=bV ρ (AW.wk σ t):=by
 obtain⟨rk,B,G⟩:=hg.rs
 obtain⟨f,h⟩:=G.wk t
 exact(S.wk ho h ht).wk
theorem a7N(ρ:Int→Int)(N:Int):∀g:Nat,(∀(σ τ:Sub) (a b:Tm) (r:Bool) (σ':Sub) (tr:List Int),cS σ→cS τ→cV (cM N) σ→cM N a→cM N b→fM ρ N σ τ→dF g σ a b=some (r,σ',tr)→∃τ',dF g τ (bV ρ a) (bV ρ b)=some (r,τ',tr.map ρ)∧fM ρ N σ' τ') ∧
 (∀(xs ys:List Tm) (σ τ:Sub) (r:Bool) (σ':Sub) (tr:List Int),cS σ→cS τ→cV (cM N) σ→(∀x∈xs,cM N x)→(∀y∈ys,cM N y)→fM ρ N σ τ→d8 g σ xs ys=some (r,σ',tr)→∃τ',d8 g τ (xs.map (bV ρ)) (ys.map (bV ρ))=some (r,τ',tr.map ρ)∧fM ρ N σ' τ'):=by
 intro g
 induction g with
 | zero=>
  refine⟨fun σ τ a b r σ' tr _ _ _ _ _ _ h=>(by simp only[dF] at h;cases h),?_⟩
  intro xs ys σ τ r σ' tr _ _ _ _ _ S h
  match xs,ys with
  | [],_=>simp only[d8,Option.some.injEq,Prod.mk.injEq] at h;obtain⟨rfl,rfl,rfl⟩:=h;exact⟨τ,by simp only[aV,d8],S⟩
  | x::xs,[]=>simp only[d8,Option.some.injEq,Prod.mk.injEq] at h;obtain⟨rfl,rfl,rfl⟩:=h;exact⟨τ,by simp only[aZ,aV,d8],S⟩
  | x::xs,y::ys=>simp only[d8,dF] at h;cases h
 | succ g ih=>
  have one:∀(σ τ:Sub) (a b:Tm) (r:Bool) (σ':Sub) (tr:List Int),cS σ→cS τ→cV (cM N) σ→cM N a→cM N b→fM ρ N σ τ→dF (g+1) σ a b=some (r,σ',tr)→∃τ',dF (g+1) τ (bV ρ a) (bV ρ b)=some (r,τ',tr.map ρ)∧fM ρ N σ' τ':=by
   intro σ τ a b r σ' tr hg hg' ho ha hb S h
   obtain⟨rk,B,G⟩:=hg.rs
   obtain⟨fa,wa⟩:=G.wk a
   obtain⟨fb,wb⟩:=G.wk b
   have oa:=wa.all (p:=cM N) ho ha
   have ob:=wb.all (p:=cM N) ho hb
   have ea:=S.aPY hg ho ha
   have eb:=S.aPY hg ho hb
   have h:=NB h
   generalize AW.wk σ a=a1 at *
   generalize AW.wk σ b=b1 at *
   rw[dF,ea,eb,yM,yM]
   have rng:∀ {t:Tm},cM N t→t.k=1→0≤t.n∧t.n<N:=fun ht hk=>ht.2.2 _ (by rw[Tm.EX hk];simp)
   have nn:∀ {t:Tm},t.k=1→(bV ρ t).n=ρ t.n:=fun hk=>by rw[yN ρ hk];try rfl
   rcases h with ⟨h1,h2,h3,rfl,rfl,rfl⟩ | ⟨h1,h2,h3⟩ | ⟨h1,h2,h3⟩ | ⟨h1,h2,h3,h4⟩ | ⟨h1,h2,h3,rfl,rfl,rfl⟩
   · exact⟨τ,by rw[aJ ⟨h1,h2,by rw[nn h1,nn h2,h3]⟩];try rfl,S⟩
   · have ra:=rng oa h1
     obtain⟨τ',e,S'⟩:=S.j9 hg hg' ho ra.1 ra.2 ob h3
     refine⟨τ',?_,S'⟩
     rw[aF,aJ h1,nn h1,e]
     rintro⟨_,h5,h6⟩
     have rb:=rng ob h5
     rw[nn h1,nn h5] at h6
     exact h2 ⟨h5,S.inj _ _ ra.1 ra.2 rb.1 rb.2 h6⟩
   · have rb:=rng ob h2
     obtain⟨τ',e,S'⟩:=S.j9 hg hg' ho rb.1 rb.2 oa h3
     refine⟨τ',?_,S'⟩
     rw[aF (fun h=>h1 h.1),aF h1,aJ h2,nn h2,e]
   · obtain⟨τ',e,S'⟩:=ih.2 a1.ts b1.ts σ τ r σ' tr hg hg' ho (LT N a1 h1 oa) (LT N b1 h2 ob) S h4
     refine⟨τ',?_,S'⟩
     rw[aF (fun h=>h1 h.1),aF h1,aF h2,aJ (by rw[aKL h1 h2];exact h3),EA ρ h1,EA ρ h2]
     exact e
   · refine⟨τ,?_,S⟩
     rw[aF (fun h=>h1 h.1),aF h1,aF h2,aF (by rw[aKL h1 h2,h3];simp)]
     try rfl
  refine⟨one,?_⟩
  intro xs
  induction xs with
  | nil=>
   intro ys σ τ r σ' tr _ _ _ _ _ S h
   simp only[d8,Option.some.injEq,Prod.mk.injEq] at h;obtain⟨rfl,rfl,rfl⟩:=h;exact⟨τ,by simp only[aV,d8],S⟩
  | cons x xs ihx=>
   intro ys σ τ r σ' tr hg hg' ho hx hy S h
   cases ys with
   | nil=>simp only[d8,Option.some.injEq,Prod.mk.injEq] at h;obtain⟨rfl,rfl,rfl⟩:=h;exact⟨τ,by simp only[aZ,aV,d8],S⟩
   | cons y ys=>
    rw[d8] at h
    simp only[aZ]
    rw[d8]
    cases hu:dF (g+1) σ x y with
    | none=>rw[hu] at h;cases h
    | some p=>
     obtain⟨r1,σ1,tr1⟩:=p
     rw[hu] at h
     obtain⟨τ1,e1,S1⟩:=one σ τ x y r1 σ1 tr1 hg hg' ho (hx x (by simp)) (hy y (by simp)) S hu
     rw[e1]
     cases r1 with
     | false=>
      simp only[Option.some.injEq,Prod.mk.injEq] at h ⊢
      obtain⟨rfl,rfl,rfl⟩:=h
      exact⟨τ1,⟨rfl,rfl,rfl⟩,S1⟩
     | true=>
      simp only at h ⊢
      cases hu2:d8 (g+1) σ1 xs ys with
      | none=>rw[hu2] at h;cases h
      | some p2=>
       obtain⟨r2,σ2,tr2⟩:=p2
       rw[hu2] at h
       simp only[Option.some.injEq,Prod.mk.injEq] at h
       obtain⟨rfl,rfl,rfl⟩:=h
       have U1:=w4 hg hu
       have U1':=w4 hg' e1
       have ho1:=(ND (LT N) (g+1)).1 σ x y true σ1 tr1 hg hu ho (hx x (by simp)) (hy y (by simp))
       obtain⟨τ2,e2,S2⟩:=ihx ys σ1 τ1 r2 σ2 tr2 U1.gW U1'.gW ho1 (fun z hz=>hx z (by simp [hz])) (fun z hz=>hy z (by simp [hz])) S1 hu2
       rw[e2]
       exact⟨τ2,by simp only[sK],S2⟩
theorem fM.jE(S:fM ρ N σ τ)(hg:cS σ)(hg':cS τ)(ho:cV (cM N) σ){a b:Tm}(ha:cM N a)(hb:cM N b){r:Bool}{σ':Sub}{tr:List Int}{g:Nat}(h:dF g σ a b=some (r,σ',tr)) :
 ∃τ',AW.jE τ (bV ρ a) (bV ρ b)=(r,τ',tr.map ρ)∧fM ρ N σ' τ'∧cS τ':=by
 obtain⟨τ',e,S'⟩:=(a7N ρ N g).1 σ τ a b r σ' tr hg hg' ho ha hb S h
 exact⟨τ',aPJ e,S',(w4 hg' e).gW⟩
end
end Go.AW
namespace Go.AW
open Go.Proofs.Tryz
def jZ(n:Int):Prop:= -999≤n∧n≤999
theorem aQ6(s:ByteArray)(a b:Int)(ha:jZ a)(hb:jZ b):jZ (rM s a b).1:=by
 unfold rM jZ
 split
 · exact SR _
 split
 · exact SR _
 split
 · exact SR _
 split
 · simp
 rename_i h0
 split
 · exact aJQ a b ha hb h0
 · exact tdiv_le a b ha
theorem aR6{f:Int→Int→Int×Int}{x y:Int×Int}(h:jZ (f x.1 y.1).1):jZ (both f x y).1:=by
 unfold both jZ
 split
 · simp
 split
 · simp
 · exact h
theorem Tm.uG{N:Int}:∀t:Tm,cM N t→jZ t.ev.1:=by
 intro t
 induction t using Tm.ind with
 | h k n s ts ih=>
  intro h
  obtain⟨h1,h2⟩:=h.all
  rw[Tm.x6]
  split
  · rename_i hk;exact h1 hk
  split
  · simp [jZ]
  split
  · match ts,h2,ih with
    | [],_,_=>simp [two,jZ]
    | [x],_,_=>simp [two,jZ]
    | [x,y],h2,ih=>exact aR6 (aQ6 _ _ _ (ih x (by simp) (h2 x (by simp))) (ih y (by simp) (h2 y (by simp))))
    | x::y::z::l,_,_=>simp [two,jZ]
  · simp [jZ]
theorem UI{ts:List Tm}(h:(ts.length:Int)=2):∃x y,ts= [x,y]:=by
 match ts,h with
 | [x,y],_=>exact⟨x,y,rfl⟩
 | [],h=>simp at h
 | [x],h=>simp at h
 | x::y::z::l,h=>simp at h;omega
abbrev wV:=zi aX (zi bZ (zi cJ (zi bS (zi bQ mA))))
theorem JX{N:Int}:∀(t:Tm) (st:aB),cM N t→aD prog 341 [t.av] st (fun r st'=>r=.tup [.int .i64 t.ev.1,.int .i64 t.ev.2]∧st'=st)
 | .mk k n s ts,st,hok=>by
  obtain⟨h1,h2⟩:=hok.all
  have IH:=fun(x:Tm) (hx:x∈ts) st=>JX x st (h2 x hx)
  rw[Tm.x6]
  simp only[aU]
  refine wF [1000000] 1 func341 ntmps341 rfl rfl ?_
  intro _
  simp only[aA,seval,wV]
  refine aP (fun hk=>?_) (fun hk=>?_)
  · simp only[aA,seval,wV]
    simp only[bO] at hk
    simp [hk]
  simp only[dB] at hk
  rw[aF hk]
  simp only[aA,seval,wV]
  refine aP (fun hk1=>?_) (fun hk1=>?_)
  · simp only[aA,seval]
    simp only[bO] at hk1
    simp [hk1]
  simp only[dB] at hk1
  rw[aF hk1]
  simp only[aE,aA,seval,wV]
  have hty:∀s0:aB,ts.length≠2∨gC qA s=false→(if gC qA s=true then two (rM s) (ts.map Tm.ev) else(0,3))=((0:Int),(3:Int)):=fun _ h=>by
   split
   · rename_i h3
     rcases h with h | h
     · match ts,h with
       | [],_=>rfl
       | [x],_=>rfl
       | [x,y],h=>simp at h
       | x::y::z::l,_=>rfl
     · rw[h] at h3;cases h3
   · rfl
  refine cU (fun h=>?_) (fun h=>?_)
  case refine_2=>
   simp only[h,aA,seval]
   rw[hty st (.inl (by simp at h;omega))]
  simp only[h,aA,seval,wV]
  refine(OO qA s _).to ?_
  simp only[aA,seval]
  refine aP (fun h3=>?_) (fun h3=>?_)
  · simp only[aA,seval]
    rw[hty st (.inr (by simpa [gC] using h3))]
  have hin:gC qA s=true:=by simpa [gC] using h3
  rw[aJ hin]
  clear hty
  obtain⟨x,y,rfl⟩:=UI (by simpa using h)
  have dR:c9 prog 34 (.slice [x.av,y.av]) (.int .i64 0)=some (.pptr x.av):=bD (av:=Tm.av) (l:=[x,y]) (i:=0) a8 rfl (aH x)
  have fR:c9 prog 34 (.slice [x.av,y.av]) (.int .i64 1)=some (.pptr y.av):=bD (av:=Tm.av) (l:=[x,y]) (i:=1) a8 rfl (aH y)
  have hx:=Tm.uG x (h2 x (by simp))
  have hy:=Tm.uG y (h2 y (by simp))
  have IHx:=fun st=>IH x (by simp) st
  have IHy:=fun st=>IH y (by simp) st
  simp only[dR,aT,aH,aA,↓aR,seval,wV]
  refine(IHx _).to ?_
  simp only[two,both]
  generalize x.ev.1=a at *
  generalize x.ev.2=ca at *
  generalize y.ev.1=b at *
  generalize y.ev.2=cb at *
  simp only[aA,seval]
  refine aP (fun h4=>?_) (fun h4=>?_)
  · simp only[aA,seval]
    have h4':ca≠0:=by simpa using h4
    rw[aJ h4']
  have h4':ca=0:=by simpa using h4
  subst h4'
  rw[aF (by simp)]
  simp only[fR,aT,aH,aA,seval,wV]
  refine(IHy _).to ?_
  simp only[aA,seval]
  refine aP (fun h5=>?_) (fun h5=>?_)
  · simp only[aA,seval]
    have h5':cb≠0:=by simpa using h5
    rw[aJ h5']
  have h5':cb=0:=by simpa using h5
  subst h5'
  rw[aF (by simp)]
  unfold jZ at hx hy
  have hmul: -998001≤a*b∧a*b≤998001:=by
   have h6:(a*b).natAbs≤998001:=by
    rw[Int.natAbs_mul]
    have:=Nat.mul_le_mul (show a.natAbs≤999 by omega) (show b.natAbs≤999 by omega)
    omega
   omega
  have hw1:=bL (n:=a+b)
  have hw2:=bL (n:=a - b)
  have hw3:=bL (n:=a*b)
  have hrg:∀(v:Int) (st':aB),aD prog 110 [.int .i64 v,.int .i64 (-999),.int .i64 999] st' (fun r s'=>r=.bool (decide (jA v=(v,0)))∧s'=st'):=fun v st'=>by
   refine(CY v (-999) 999 st').mono ?_
   rintro _ _ ⟨rfl,rfl⟩
   refine⟨?_,rfl⟩
   congr 1
   unfold jA
   split
   · rename_i h;simp [h.1,h.2]
   · rename_i h
     rw[show(decide (((0:Int),(5:Int))=(v,0)))=false from d6 (by simp)]
     simp only[Bool.and_eq_false_iff,dB]
     omega
  have hrn:∀v,jA v≠(v,0)→jA v=(0,5):=fun v h=>by
   unfold jA at h ⊢
   split
   · rename_i h';rw[aJ h'] at h;exact absurd rfl h
   · rfl
  unfold rM
  simp only[aA,seval,wV]
  refine aP (fun h6=>?_) (fun h6=>?_)
  · simp only[hw1,aA,seval]
    rw[aJ (by simpa using h6)]
    refine(hrg (a+b) _).to ?_
    simp only[aA,seval]
    refine aP (fun h8=>?_) (fun h8=>?_)
    · simp only[aA,seval]
      rw[hrn _ (by simpa using h8)]
    · simp only[aA,seval]
      rw[show jA (a+b)=(a+b,0) by simpa using h8]
  rw[aF (by simpa using h6)]
  simp only[aA,seval]
  refine aP (fun h7=>?_) (fun h7=>?_)
  · simp only[hw2,aA,seval]
    rw[aJ (by simpa using h7)]
    refine(hrg (a - b) _).to ?_
    simp only[aA,seval]
    refine aP (fun h8=>?_) (fun h8=>?_)
    · simp only[aA,seval]
      rw[hrn _ (by simpa using h8)]
    · simp only[aA,seval]
      rw[show jA (a - b)=(a - b,0) by simpa using h8]
  rw[aF (by simpa using h7)]
  simp only[aA,seval]
  refine aP (fun h9=>?_) (fun h9=>?_)
  · simp only[hw3,aA,seval]
    rw[aJ (by simpa using h9)]
    refine(hrg (a*b) _).to ?_
    simp only[aA,seval]
    refine aP (fun h8=>?_) (fun h8=>?_)
    · simp only[aA,seval]
      rw[hrn _ (by simpa using h8)]
    · simp only[aA,seval]
      rw[show jA (a*b)=(a*b,0) by simpa using h8]
  rw[aF (by simpa using h9)]
  simp only[aA,seval]
  refine aP (fun h0=>?_) (fun h0=>?_)
  · simp only[aA,seval]
    rw[aJ (by simpa using h0)]
  have h0':b≠0:=by simpa using h0
  rw[aF h0']
  have hq:=tdiv_le a b hx
  have hr:=MT a b h0'
  have hf:=aJQ a b hx hy h0'
  have hfe:=aZD a b h0'
  have hw4:=bL (n:=a.tdiv b)
  have hw5:=bL (n:=a.tmod b+b)
  have a0Q:jA (a.tdiv b)=(a.tdiv b,0):=by unfold jA;rw[aJ hq]
  have a0R:jA (qF a b)=(qF a b,0):=by unfold jA;rw[aJ hf]
  simp only[hw4,h0',aA,seval,wV]
  refine aP (fun h10=>?_) (fun h10=>?_)
  · simp only[hw5,h0',hfe,aA,seval]
    rw[aJ (by simpa using h10)]
    refine(hrg (qF a b) _).to ?_
    have hd:decide (jA (qF a b)=(qF a b,0))=true:=by rw[a0R];simp
    simp only[hd,aA,seval]
  · simp only[aA,seval]
    rw[aF (by simpa using h10)]
    refine(hrg (a.tdiv b) _).to ?_
    have hd:decide (jA (a.tdiv b)=(a.tdiv b,0))=true:=by rw[a0Q];simp
    simp only[hd,aA,seval]
termination_by t=>SizeOf.sizeOf t
decreasing_by have:=List.sizeOf_lt_of_mem hx;simp only[Tm.mk.sizeOf_spec];omega
theorem O0(n:Int)(st:aB):aD prog 356 [.int .i64 n] st (fun r st'=>r=.tup [.int .i64 (jA n).1,.int .i64 (jA n).2]∧st'=st):=by
 refine wF [1000000] 1 func356 ntmps356 rfl rfl ?_
 intro _
 simp only[aA,seval]
 refine cU (fun h=>?_) (fun h=>?_)
 · simp only[h,aA,seval]
   have h1:¬n< -999:=by simpa using h
   refine aP (fun h2=>?_) (fun h2=>?_)
   · simp only[aA,seval]
     have h2':999<n:=by simpa using h2
     unfold jA
     rw[aF (by omega)]
   · simp only[aA,seval]
     have h2':¬ 999<n:=by simpa using h2
     unfold jA
     rw[aJ (by omega)]
 · simp only[h,aA,seval]
   have h1:n< -999:=by simpa using h
   unfold jA
   rw[aF (by omega)]
abbrev a58:=zi aX bZ
theorem aUP(a b:Int)(ha:jZ a)(hb:jZ b)(h0:b≠0)(st:aB):aD prog 357 [.int .i64 a,.int .i64 b] st (fun r st'=>r=.int .i64 (qF a b)∧st'=st):=by
 have hl:=MT a b h0
 unfold jZ at ha hb
 have hw:=bL (n:=a.tmod b+b)
 refine wF [1000000] 2 func357 ntmps357 rfl rfl ?_
 intro _
 simp only[h0,aA,seval]
 have hf:qF a b=if a.tmod b≠0∧decide (a.tmod b<0)≠decide (b<0) then a.tmod b+b else a.tmod b:=rfl
 rw[hf]
 clear hf
 generalize hm:a.tmod b=m at *
 refine cU (fun h=>?_) (fun h=>?_)
 · have h':m≠0:=by simpa using h
   simp only[h,aA,seval,a58]
   refine aP (fun h2=>?_) (fun h2=>?_)
   · simp only[hw,aA,seval]
     rw[aJ ⟨h',by simpa using h2⟩]
   · simp only[aA,seval]
     rw[aF (by intro h3;exact h3.2 (by simpa using h2))]
 · have h':m=0:=by simpa using h
   simp only[h,aA,seval]
   rw[aF (by intro h3;exact h3.1 h')]
theorem aUN(a b:Int)(ha:jZ a)(hb:jZ b)(h0:b≠0)(st:aB):aD prog 358 [.int .i64 a,.int .i64 b] st (fun r st'=>r=.int .i64 (a.tdiv b)∧st'=st):=by
 have hl:=tdiv_le a b ha
 have hw:=bL (n:=a.tdiv b)
 refine wF [1000000] 2 func358 ntmps358 rfl rfl ?_
 intro _
 simp only[h0,hw,aA,seval]
theorem X3(s:ByteArray)(a b:Int)(hx:jZ a)(hy:jZ b)(st:aB):aD prog 331 [.str s,.int .i64 a,.int .i64 b] st (fun r st'=>r=.tup [.int .i64 (rM s a b).1,.int .i64 (rM s a b).2]∧st'=st):=by
 have hMod:=fun h0=>aUP a b hx hy h0
 have hDiv:=fun h0=>aUN a b hx hy h0
 unfold jZ at hx hy
 have hmul: -998001≤a*b∧a*b≤998001:=by
  have h6:(a*b).natAbs≤998001:=by
   rw[Int.natAbs_mul]
   have:=Nat.mul_le_mul (show a.natAbs≤999 by omega) (show b.natAbs≤999 by omega)
   omega
  omega
 have hw1:=bL (n:=a+b)
 have hw2:=bL (n:=a - b)
 have hw3:=bL (n:=a*b)
 unfold rM
 refine wF [1000000] 3 func331 ntmps331 rfl rfl ?_
 intro _
 simp only[aA,seval]
 refine aP (fun h6=>?_) (fun h6=>?_)
 · simp only[hw1,aA,seval]
   rw[aJ (by simpa using h6)]
   refine(O0 _ _).to ?_
   simp only[aA,seval]
 rw[aF (by simpa using h6)]
 simp only[aA,seval]
 refine aP (fun h7=>?_) (fun h7=>?_)
 · simp only[hw2,aA,seval]
   rw[aJ (by simpa using h7)]
   refine(O0 _ _).to ?_
   simp only[aA,seval]
 rw[aF (by simpa using h7)]
 simp only[aA,seval]
 refine aP (fun h9=>?_) (fun h9=>?_)
 · simp only[hw3,aA,seval]
   rw[aJ (by simpa using h9)]
   refine(O0 _ _).to ?_
   simp only[aA,seval]
 rw[aF (by simpa using h9)]
 simp only[aA,seval]
 refine aP (fun h0=>?_) (fun h0=>?_)
 · simp only[aA,seval]
   rw[aJ (by simpa using h0)]
 have h0':b≠0:=by simpa using h0
 rw[aF h0']
 simp only[aA,seval]
 refine aP (fun h10=>?_) (fun h10=>?_)
 · simp only[aA,seval]
   rw[aJ (by simpa using h10)]
   refine(hMod h0' _).to ?_
   simp only[aA,seval]
 · simp only[aA,seval]
   rw[aF (by simpa using h10)]
   refine(hDiv h0' _).to ?_
   simp only[aA,seval]
theorem JQ(s:ByteArray):gC qA s=decide (bY s=1∨bY s=2):=by
 unfold gC qA bY
 simp only[B1,List.any_nil,BY]
 by_cases h1:s=⟨#[43]⟩
 · subst h1;decide
 by_cases h2:s=⟨#[45]⟩
 · subst h2;decide
 by_cases h3:s=⟨#[42]⟩
 · subst h3;decide
 by_cases h4:s=⟨#[47,47]⟩
 · subst h4;decide
 by_cases h5:s=⟨#[109,111,100]⟩
 · subst h5;decide
 simp only[h1,h2,h3,h4,h5,bP,BY,AA]
 cases (decide (s=⟨#[61]⟩)||decide (s=⟨#[92,61]⟩)||decide (s=⟨#[61,61]⟩)||decide (s=⟨#[60]⟩)||decide (s=⟨#[62]⟩)||decide (s=⟨#[61,60]⟩)||decide (s=⟨#[62,61]⟩)||decide (s=⟨#[61,58,61]⟩)||decide (s=⟨#[105,115]⟩))<;>rfl
abbrev sB:=zi aX (zi cJ (zi bS bQ))
theorem J2{N:Int}:∀(t:Tm) (st:aB),cM N t→aD prog 292 [t.av] st (fun r st'=>r=.tup [.int .i64 t.ev.1,.int .i64 t.ev.2]∧st'=st)
 | .mk k n s ts,st,hok=>by
  obtain⟨h1,h2⟩:=hok.all
  have IH:=fun(x:Tm) (hx:x∈ts) st=>J2 x st (h2 x hx)
  rw[Tm.x6]
  simp only[aU]
  refine wF [1000000] 1 func292 ntmps292 rfl rfl ?_
  intro _
  simp only[aA,seval,sB]
  refine aP (fun hk1=>?_) (fun hk1=>?_)
  · simp only[aA,seval]
    simp only[bO] at hk1
    rw[aF (by omega),aJ hk1]
  simp only[dB] at hk1
  rw[aF hk1]
  simp only[aA,seval]
  refine aP (fun hk=>?_) (fun hk=>?_)
  · simp only[aA,seval,sB]
    simp only[bO] at hk
    simp [hk]
  simp only[dB] at hk
  rw[aF hk]
  simp only[aA,seval,sB]
  refine(vS s _).to ?_
  simp only[aE,aA,seval,sB]
  have hty:∀s0:aB,ts.length≠2∨gC qA s=false→(if gC qA s=true then two (rM s) (ts.map Tm.ev) else(0,3))=((0:Int),(3:Int)):=fun _ h=>by
   split
   · rename_i h3
     rcases h with h | h
     · match ts,h with
       | [],_=>rfl
       | [x],_=>rfl
       | [x,y],h=>simp at h
       | x::y::z::l,_=>rfl
     · rw[h] at h3;cases h3
   · rfl
  refine cU (fun h=>?_) (fun h=>?_)
  case refine_2=>
   simp only[h,aA,seval]
   rw[hty st (.inl (by simp at h;omega))]
  simp only[h,aA,seval]
  have GV:gC qA s=false→bY s≠1∧bY s≠2:=fun h=>by
   rw[JQ] at h
   have:=of_decide_eq_false h
   omega
  refine cU (fun h3=>?_) (fun h3=>?_)
  · simp only[h3,aA,seval]
    have h3':bY s≠1:=by simp at h3;omega
    refine aP (fun h6=>?_) (fun h6=>?_)
    · have h6':bY s≠2:=by simp at h6;omega
      simp only[aA,seval]
      rw[hty st (.inr (by rw[JQ];simp [h3',h6']))]
    · have h6':bY s=2:=by simp at h6;omega
      have hin:gC qA s=true:=by rw[JQ];simp [h6']
      simp only[aA,seval,sB]
      rw[aJ hin]
      clear hty GV
      obtain⟨x,y,rfl⟩:=UI (by simpa using h)
      have dR:c9 prog 34 (.slice [x.av,y.av]) (.int .i64 0)=some (.pptr x.av):=bD (av:=Tm.av) (l:=[x,y]) (i:=0) a8 rfl (aH x)
      have fR:c9 prog 34 (.slice [x.av,y.av]) (.int .i64 1)=some (.pptr y.av):=bD (av:=Tm.av) (l:=[x,y]) (i:=1) a8 rfl (aH y)
      have hx:=Tm.uG x (h2 x (by simp))
      have hy:=Tm.uG y (h2 y (by simp))
      have IHx:=fun st=>IH x (by simp) st
      have IHy:=fun st=>IH y (by simp) st
      simp only[aZ,aV,two,both]
      simp only[dR,aT,aH,aA,↓aR,seval,sB]
      refine(IHx _).to ?_
      generalize x.ev.1=a at *
      generalize x.ev.2=ca at *
      generalize y.ev.1=b at *
      generalize y.ev.2=cb at *
      simp only[aA,seval]
      refine aP (fun h4=>?_) (fun h4=>?_)
      · simp only[aA,seval]
        have h4':ca≠0:=by simpa using h4
        rw[aJ h4']
      have h4':ca=0:=by simpa using h4
      subst h4'
      rw[aF (by simp)]
      simp only[fR,aT,aH,aA,seval,sB]
      refine(IHy _).to ?_
      simp only[aA,seval]
      refine aP (fun h5=>?_) (fun h5=>?_)
      · simp only[aA,seval]
        have h5':cb≠0:=by simpa using h5
        rw[aJ h5']
      have h5':cb=0:=by simpa using h5
      subst h5'
      rw[aF (by simp)]
      simp only[aA,seval,sB]
      refine(X3 s a b hx hy _).to ?_
      simp only[aA,seval]
  · have h3':bY s=1:=by simp at h3;omega
    have hin:gC qA s=true:=by rw[JQ];simp [h3']
    simp only[h3,aA,seval,sB]
    rw[aJ hin]
    clear hty GV
    obtain⟨x,y,rfl⟩:=UI (by simpa using h)
    have dR:c9 prog 34 (.slice [x.av,y.av]) (.int .i64 0)=some (.pptr x.av):=bD (av:=Tm.av) (l:=[x,y]) (i:=0) a8 rfl (aH x)
    have fR:c9 prog 34 (.slice [x.av,y.av]) (.int .i64 1)=some (.pptr y.av):=bD (av:=Tm.av) (l:=[x,y]) (i:=1) a8 rfl (aH y)
    have hx:=Tm.uG x (h2 x (by simp))
    have hy:=Tm.uG y (h2 y (by simp))
    have IHx:=fun st=>IH x (by simp) st
    have IHy:=fun st=>IH y (by simp) st
    simp only[aZ,aV,two,both]
    simp only[dR,aT,aH,aA,↓aR,seval,sB]
    refine(IHx _).to ?_
    generalize x.ev.1=a at *
    generalize x.ev.2=ca at *
    generalize y.ev.1=b at *
    generalize y.ev.2=cb at *
    simp only[aA,seval]
    refine aP (fun h4=>?_) (fun h4=>?_)
    · simp only[aA,seval]
      have h4':ca≠0:=by simpa using h4
      rw[aJ h4']
    have h4':ca=0:=by simpa using h4
    subst h4'
    rw[aF (by simp)]
    simp only[fR,aT,aH,aA,seval,sB]
    refine(IHy _).to ?_
    simp only[aA,seval]
    refine aP (fun h5=>?_) (fun h5=>?_)
    · simp only[aA,seval]
      have h5':cb≠0:=by simpa using h5
      rw[aJ h5']
    have h5':cb=0:=by simpa using h5
    subst h5'
    rw[aF (by simp)]
    simp only[aA,seval,sB]
    refine(X3 s a b hx hy _).to ?_
    simp only[aA,seval]
termination_by t=>SizeOf.sizeOf t
decreasing_by have:=List.sizeOf_lt_of_mem hx;simp only[Tm.mk.sizeOf_spec];omega
abbrev aOH:=zi aX fA
theorem OQ(l:List Int)(v:Int)(st:aB):aD prog 65 [.slice (l.map iv),.int .i64 v] st (fun r st'=>r=.int .i64 (d4 v l 0)∧st'=st):=by
 refine wF [] 2 func65 ntmps65 rfl rfl ?_
 simp only[d7,AV.fits,d9,aE]
 intro ⟨hl,_⟩
 simp only[aE,aA,seval,aOH]
 refine dV (σ:=Unit) [] [0,1,7] l (fun i _=>d4 v l 0=d4 v (l.drop i) i) (fun i _=>[(8,.int .i64 i)]) (fun _ _=>st) (by decide +kernel) ⟨(),rfl,aN.mk (by simp only[aA,↓aR,seval])⟩ (fun i x _ hx hlt bH hdr hinv=>?_) (fun _ hge hinv=>?_)
 case refine_2=>
  simp only[hge,aA,seval]
  rw[hinv,j4]
  try rfl
 rw[hdr,d4] at hinv
 have hw:=bL (n:=(i:Int)+1)
 simp only[bH,bD (av:=iv) g7 hx rfl,aA,seval,aOH]
 refine aP (fun h=>?_) (fun h=>?_)
 · simp only[bO] at h
   rw[aJ h] at hinv
   simp only[hinv,aA,seval]
 · simp only[dB] at h
   rw[aF h] at hinv
   simp only[aA,seval]
   exact⟨(),by rw[hinv],aN.mk (by simp only[hw,aA,seval])⟩
theorem aSI(l:List Int)(v:Int)(st:aB):aD prog 229 [.slice (l.map iv),.int .i64 v] st (fun r st'=>r=.bool (decide (v∈l))∧st'=st):=by
 refine wF [] 2 func229 ntmps229 rfl rfl ?_
 intro _
 simp only[aA,seval]
 refine(OQ l v st).to ?_
 simp only[aLC v l 0 (Int.le_refl 0),aA,seval]
theorem a48{st:aB}{b:Nat}{l:List Int}{os xs:List AV}(h:Seen (a7 st b (l.map iv)) eR os xs):Seen (a7 st b (l.map iv)) eR (bE 1 b (l.map iv)::os) (.slice (l.map iv)::xs):=
 Seen.own (a3Z (cP.flat (by simp [AV.flat])) (by intro e h;simp only[cI] at h;obtain⟨t,_,rfl⟩:=h;rfl)) h
def Grown(st:aB)(l:List Int)(r:AV)(st':aB):Prop:=∃b',r=bE 1 b' (l.map iv)∧st'=a7 st b' (l.map iv)∧(l.map iv≠[]→st b'=none)
abbrev sD:=zi aX (zi bZ (zi fA (zi bS bQ)))
theorem W8:∀(t:Tm) (l:List Int) (b:Nat) (st:aB),(l.map iv≠[]→st b=none)→l.length+t.nodes≤1099511627776→aD prog 142 [t.av,bE 1 b (l.map iv)] (a7 st b (l.map iv)) (Grown st (t.vars l))
 | .mk k n s ts,l,b,st,hb,hsz=>by
  have IH:=fun(x:Tm) (hx:x∈ts)=>W8 x
  simp only[Tm.vars]
  rw[Tm.gK] at hsz
  refine wF [] 2 func142 ntmps142 rfl rfl ?_
  simp only[aU,d7,AV.fits,d9,aE]
  intro ⟨⟨_,_,_,hl,_⟩,_⟩
  simp only[aA,seval,sD]
  refine cU (fun h=>?_) (fun h=>?_)
  · simp only[bO] at h
    subst h
    simp only[aA,seval,sD]
    refine(aD.see (fun s=>aSI l n s) (a48 (Seen.same .nil)) rfl).to ?_
    simp only[aA,seval]
    refine aP (fun h=>?_) (fun h=>?_)
    · simp only[iV,dB] at h
      rw[aJ h]
      simp only[aA,seval,sD]
      refine eD g7 C7 AD rfl rfl (eO rfl rfl) (by intro e h;simp only[cI] at h;obtain⟨t,_,rfl⟩:=h;rfl) hb (by simp;omega) (by simp;omega) (fun b' hb'=>?_)
      rw[show l.map iv++ [AV.int .i64 n]=(l++ [n]).map iv by simp] at hb' ⊢
      simp only[aA,seval,sD]
      refine dV (σ:=List Int×Nat) [] [4,23,24] ts (fun i p=>aY (ts.drop i) p.1=aY ts (l++ [n])∧p.1.length+bK Tm.nodes (ts.drop i)≤1099511627776∧(p.1.map iv≠[]→st p.2=none)) (fun i p=>[(1,bE 1 p.2 (p.1.map iv)),(25,.int .i64 i)]) (fun _ p=>a7 st p.2 (p.1.map iv)) (by decide +kernel)
       ⟨(l++ [n],b'),⟨rfl,by simp;omega,hb'⟩,aN.mk (by simp only[aE,aA,↓aR,seval])⟩ (fun i x p hx hlt bH hdr hinv=>?_) (fun p hge hinv=>?_)
      case refine_2=>
       simp only[aE,hge,aA,seval]
       rw[←hinv.1,j4]
       exact⟨p.2,rfl,rfl,hinv.2.2⟩
      obtain⟨acc,b⟩:=p
      rw[hdr] at hinv
      obtain⟨i1,i2,i3⟩:=hinv
      simp only[bK] at i2
      have hw:=bL (n:=(i:Int)+1)
      simp only[aE,bH,bD (av:=Tm.av) a8 hx (aH x),aT,aH,aA,seval,sD]
      intro b2 hb2
      obtain⟨hn2,hne⟩:=CM hb2
      have hc2: [AV.int IntKind.i64 0,AV.int IntKind.i64 0,AV.str ⟨#[]⟩,AV.fslice []].length=4:=rfl
      try simp only[cY,BE (x:=x.av.cells) (bR x) hc2,bR,bT,eJ (bR x),eE (aT x),cZ,aA,↓aR,seval,sD]
      rw[o9 hne]
      refine(IH x (cD hx) acc b _ (fun h=>by rw[aB.aM _ _ (c7 (hne h))];exact i3 h) (by omega)).mono ?_
      rintro _ _ ⟨b',rfl,rfl,hb'⟩
      simp only[hw,aA,seval]
      obtain⟨hd,AK⟩:=JK (o:=.cells x.av.cells) hn2 hb'
      have hvl:=Tm.EW x acc
      refine⟨(x.vars acc,b'),⟨i1,by simp only;omega,AK⟩,aN.drop hd (by simp only[aA,seval])⟩
    · simp only[lO,bO] at h
      rw[aF (by simp [h])]
      simp only[aA,seval,sD]
      refine dV (σ:=List Int×Nat) [] [4,23,24] ts (fun i p=>aY (ts.drop i) p.1=aY ts (l)∧p.1.length+bK Tm.nodes (ts.drop i)≤1099511627776∧(p.1.map iv≠[]→st p.2=none)) (fun i p=>[(1,bE 1 p.2 (p.1.map iv)),(25,.int .i64 i)]) (fun _ p=>a7 st p.2 (p.1.map iv)) (by decide +kernel)
       ⟨(l,b),⟨rfl,by simp;omega,hb⟩,aN.mk (by simp only[aE,aA,↓aR,seval])⟩ (fun i x p hx hlt bH hdr hinv=>?_) (fun p hge hinv=>?_)
      case refine_2=>
       simp only[aE,hge,aA,seval]
       rw[←hinv.1,j4]
       exact⟨p.2,rfl,rfl,hinv.2.2⟩
      obtain⟨acc,b⟩:=p
      rw[hdr] at hinv
      obtain⟨i1,i2,i3⟩:=hinv
      simp only[bK] at i2
      have hw:=bL (n:=(i:Int)+1)
      simp only[aE,bH,bD (av:=Tm.av) a8 hx (aH x),aT,aH,aA,seval,sD]
      intro b2 hb2
      obtain⟨hn2,hne⟩:=CM hb2
      have hc2: [AV.int IntKind.i64 0,AV.int IntKind.i64 0,AV.str ⟨#[]⟩,AV.fslice []].length=4:=rfl
      try simp only[cY,BE (x:=x.av.cells) (bR x) hc2,bR,bT,eJ (bR x),eE (aT x),cZ,aA,↓aR,seval,sD]
      rw[o9 hne]
      refine(IH x (cD hx) acc b _ (fun h=>by rw[aB.aM _ _ (c7 (hne h))];exact i3 h) (by omega)).mono ?_
      rintro _ _ ⟨b',rfl,rfl,hb'⟩
      simp only[hw,aA,seval]
      obtain⟨hd,AK⟩:=JK (o:=.cells x.av.cells) hn2 hb'
      have hvl:=Tm.EW x acc
      refine⟨(x.vars acc,b'),⟨i1,by simp only;omega,AK⟩,aN.drop hd (by simp only[aA,seval])⟩
  · simp only[fU,dB] at h
    rw[aF (by simp [h])]
    simp only[h,aA,seval,sD]
    refine dV (σ:=List Int×Nat) [] [4,23,24] ts (fun i p=>aY (ts.drop i) p.1=aY ts (l)∧p.1.length+bK Tm.nodes (ts.drop i)≤1099511627776∧(p.1.map iv≠[]→st p.2=none)) (fun i p=>[(1,bE 1 p.2 (p.1.map iv)),(25,.int .i64 i)]) (fun _ p=>a7 st p.2 (p.1.map iv)) (by decide +kernel)
     ⟨(l,b),⟨rfl,by simp;omega,hb⟩,aN.mk (by simp only[aE,aA,↓aR,seval])⟩ (fun i x p hx hlt bH hdr hinv=>?_) (fun p hge hinv=>?_)
    case refine_2=>
     simp only[aE,hge,aA,seval]
     rw[←hinv.1,j4]
     exact⟨p.2,rfl,rfl,hinv.2.2⟩
    obtain⟨acc,b⟩:=p
    rw[hdr] at hinv
    obtain⟨i1,i2,i3⟩:=hinv
    simp only[bK] at i2
    have hw:=bL (n:=(i:Int)+1)
    simp only[aE,bH,bD (av:=Tm.av) a8 hx (aH x),aT,aH,aA,seval,sD]
    intro b2 hb2
    obtain⟨hn2,hne⟩:=CM hb2
    have hc2: [AV.int IntKind.i64 0,AV.int IntKind.i64 0,AV.str ⟨#[]⟩,AV.fslice []].length=4:=rfl
    try simp only[cY,BE (x:=x.av.cells) (bR x) hc2,bR,bT,eJ (bR x),eE (aT x),cZ,aA,↓aR,seval,sD]
    rw[o9 hne]
    refine(IH x (cD hx) acc b _ (fun h=>by rw[aB.aM _ _ (c7 (hne h))];exact i3 h) (by omega)).mono ?_
    rintro _ _ ⟨b',rfl,rfl,hb'⟩
    simp only[hw,aA,seval]
    obtain⟨hd,AK⟩:=JK (o:=.cells x.av.cells) hn2 hb'
    have hvl:=Tm.EW x acc
    refine⟨(x.vars acc,b'),⟨i1,by simp only;omega,AK⟩,aN.drop hd (by simp only[aA,seval])⟩
termination_by t=>SizeOf.sizeOf t
decreasing_by have:=List.sizeOf_lt_of_mem hx;simp only[Tm.mk.sizeOf_spec];omega
abbrev TO:=zi aX (zi fA (zi bS bQ))
theorem z6(l:List Tm)(st:aB)(hsz:bK Tm.nodes l≤1099511627776):aD prog 62 [.slice (l.map Tm.av)] st (fun r st'=>r=.slice ((aY l []).map iv)∧st'=st):=by
 refine aD.fin ?_
 refine wF [] 1 func62 ntmps62 rfl rfl ?_
 simp only[d7,AV.fits,d9,aE]
 intro ⟨hl,_⟩
 simp only[aE,aA,seval,TO]
 refine dV (σ:=List Int×Nat) [] [2,6,7] l (fun i p=>aY (l.drop i) p.1=aY l ([])∧p.1.length+bK Tm.nodes (l.drop i)≤1099511627776∧(p.1.map iv≠[]→st p.2=none)) (fun i p=>[(3,bE 1 p.2 (p.1.map iv)),(8,.int .i64 i)]) (fun _ p=>a7 st p.2 (p.1.map iv)) (by decide +kernel)
  ⟨([],0),⟨rfl,by simp;omega,by simp⟩,aN.mk (by simp only[aV,iK,aA,↓aR,seval])⟩ (fun i x p hx hlt bH hdr hinv=>?_) (fun p hge hinv=>?_)
 case refine_2=>
  simp only[hge,aA,seval]
  rw[←hinv.1,j4]
  exact⟨p.2,p.1.map iv,st,rfl,hinv.2.2,by simp [AV.cE],⟨1,aLE p.1⟩,iJ,rfl⟩
 obtain⟨acc,b⟩:=p
 rw[hdr] at hinv
 obtain⟨i1,i2,i3⟩:=hinv
 simp only[bK] at i2
 have hw:=bL (n:=(i:Int)+1)
 simp only[bH,bD (av:=Tm.av) a8 hx (aH x),aT,aH,aA,seval,TO]
 intro b2 hb2
 obtain⟨hn2,hne⟩:=CM hb2
 have uQ:∀zs:List AV,zs.length=4→aK zs 0 x.av.cells=x.av.cells:=fun zs h=>BE (bR x) h
 try simp only[cY,uQ,bR,bT,eJ (bR x),eE (aT x),cZ,aA,↓aR,seval,TO]
 rw[o9 hne]
 refine(W8 x acc b _ (fun h=>by rw[aB.aM _ _ (c7 (hne h))];exact i3 h) (by omega)).mono ?_
 rintro _ _ ⟨b',rfl,rfl,hb'⟩
 simp only[hw,aA,seval]
 obtain⟨hd,AK⟩:=JK (o:=.cells x.av.cells) hn2 hb'
 have hvl:=Tm.EW x acc
 exact⟨(x.vars acc,b'),⟨i1,by simp only;omega,AK⟩,aN.drop hd (by simp only[aA,seval])⟩
abbrev H3:=zi aX (zi fA (zi bS bQ))
theorem F1:∀(t:Tm) (l:List Int) (b:Nat) (st:aB),t.wf=true→(l.map iv≠[]→st b=none)→l.length+t.nodes≤1099511627776→aD prog 221 [bE 1 b (l.map iv),t.av] (a7 st b (l.map iv)) (Grown st (t.vars l))
 | .mk k n s ts,l,b,st,hwf,hb,hsz=>by
  obtain⟨hk,a1S⟩:=Tm.UQ hwf
  have IH:=fun(x:Tm) (hx:x∈ts) l b st=>F1 x l b st (a1S x hx)
  have haL:=t7 (w:=1) (b:=b) (l:=l.map iv) IT
  simp only[Tm.vars]
  rw[Tm.gK] at hsz
  refine wF [] 2 func221 ntmps221 rfl rfl ?_
  simp only[aU,d7,AV.fits,d9,aE]
  intro ⟨_,⟨_,_,_,hl,_⟩⟩
  simp only[aA,seval,H3]
  refine aP (fun h=>?_) (fun h=>?_)
  · simp only[bO] at h
    obtain rfl:=hk h
    subst h
    simp only[aA,seval]
    have hnn:l.length≤1099511627776:=by omega
    refine dV (σ:=Unit) [] [0,3] l (fun i _=>∀y∈l.take i,y≠n) (fun i _=>[(5,.int .i64 i)]) (fun _ _=>a7 st b (l.map iv)) (by decide +kernel) ⟨(),by simp,aN.mk (by simp only[aA,↓aR,seval])⟩ (fun i x _ hx hlt bH hdr hinv=>?_) (fun _ hge hinv=>?_)
    case refine_2=>
     rw[dW] at hinv
     have gO:n∉l:=fun h=>hinv n h rfl
     simp only[haL,aE,hge,aA,seval,H3]
     refine eD g7 C7 AD rfl rfl (eO rfl rfl) (aLE l) hb (by simp;omega) (by simp;omega) (fun b' hb'=>?_)
     rw[show l.map iv++ [AV.int .i64 n]=(l++ [n]).map iv by simp] at hb' ⊢
     simp only[aA,seval]
     exact⟨b',by simp [aY,gO],by simp [aY,gO],by simp only[aY,gO,HA,gB];exact hb'⟩
    have hat:=WB (b:=b) (l:=l.map iv) (i:=i) (x:=iv x) g7 (by rw[mD,hx];try rfl)
    obtain⟨f9,yB⟩:=WC (st:=st) (b:=b) hx
    have hw:=bL (n:=(i:Int)+1)
    simp only[haL,aE,bH,aA,seval]
    refine CT mixed (by decide +kernel) (by decide +kernel) ?_
    simp only[hat,f9,yB,vF,aA,seval,H3]
    refine aP (fun h=>?_) (fun h=>?_)
    · simp only[bO] at h
      subst h
      have gO:=cD hx
      simp only[aA,seval]
      exact⟨b,by simp [aY,gO],by simp [aY,gO],by simp only[aY,gO,LR,d5];exact hb⟩
    · simp only[dB] at h
      simp only[aA,seval]
      refine⟨(),?_,aN.mk (by simp only[hw,aA,seval])⟩
      intro y hy
      rw[eA,hx] at hy
      rcases fQ.1 hy with hy | hy
      · exact hinv y hy
      · simp at hy;subst hy;exact h
  · simp only[dB] at h
    rw[aF (by simp [h])]
    simp only[aA,seval]
    refine dV (σ:=List Int×Nat) [] [3,4] ts (fun i p=>aY (ts.drop i) p.1=aY ts l∧p.1.length+bK Tm.nodes (ts.drop i)≤1099511627776∧(p.1.map iv≠[]→st p.2=none)) (fun i p=>[(0,bE 1 p.2 (p.1.map iv)),(6,.int .i64 i)]) (fun _ p=>a7 st p.2 (p.1.map iv)) (by decide +kernel)
     ⟨(l,b),⟨rfl,by simp;omega,hb⟩,aN.mk (by simp only[aA,↓aR,seval])⟩ (fun i x p hx hlt bH hdr hinv=>?_) (fun p hge hinv=>?_)
    case refine_2=>
     simp only[aE,hge,aA,seval,H3]
     rw[←hinv.1,j4]
     exact⟨p.2,rfl,rfl,hinv.2.2⟩
    obtain⟨acc,b⟩:=p
    rw[hdr] at hinv
    obtain⟨i1,i2,i3⟩:=hinv
    simp only[bK] at i2
    have hw:=bL (n:=(i:Int)+1)
    simp only[aE,bH,bD (av:=Tm.av) a8 hx (aH x),aT,aH,aA,seval,H3]
    refine(IH x (cD hx) acc b st i3 (by omega)).mono ?_
    rintro _ _ ⟨b',rfl,rfl,hb'⟩
    have hvl:=Tm.EW x acc
    simp only[hw,aA,seval]
    exact⟨(x.vars acc,b'),⟨i1,by simp only;omega,hb'⟩,aN.mk (by simp only[aA,seval])⟩
termination_by t=>SizeOf.sizeOf t
decreasing_by have:=List.sizeOf_lt_of_mem hx;simp only[Tm.mk.sizeOf_spec];omega
theorem WP{A C B:List AV}{n:Nat}(hA:A.length=n)(hC:C.length=4) :
 (n+4≤(A++C++B).length)∧List.take 4 (List.drop n (A++C++B))=C∧(A++C++B)[n+0]?=C[0]?:=by
 refine⟨by simp only[dM];omega,?_,(RQ (A:=A) (B:=B) hA).2.2.1 C 0 (by omega)⟩
 rw[←hA,nP,E3,←hC,FA]
abbrev OkN (t:Tm):Prop:=t.jY=true∧t.nodes≤120
end Go.AW
namespace Go.AW
def nZ(n:Int):Tm:=.mk 2 n ⟨#[]⟩ []
theorem a2F{n:Int}(h:jZ n):(nZ n).valid=true:=by
 have ho:(nZ n).jY=true:=by
  unfold nZ
  rw[Tm.A3]
  simp [eK,h.1,h.2]
 rw[Tm.aPP ho]
 simp [nZ,Tm.gK,bK,Tm.v6]
def iO(b:Bool):Int:=if b=true then 0 else 1
def KC(s:ByteArray)(a b:Int):Bool:=
 if s=⟨#[60]⟩ then decide (a<b) else if s=⟨#[62]⟩ then decide (b<a) else if s=⟨#[61,60]⟩ then decide (a≤b) else if s=⟨#[62,61]⟩ then decide (b≤a) else decide (a=b)
def tL(s:ByteArray)(x:Tm):Bool:=
 if s=⟨#[118,97,114]⟩ then decide (x.k=1) else if s=⟨#[110,111,110,118,97,114]⟩ then !decide (x.k=1) else if s=⟨#[97,116,111,109]⟩ then decide (x.k=3)&&decide ((x.ts.length:Int)=0) else decide (x.k=2)
def xW(s:ByteArray)(x y:Tm):Int:=(both (fun a b=>(0,iO (KC s a b))) x.ev y.ev).2
def m7(x y:Tm):Option Tm:=if 1≤x.n∧x.n≤y.ts.length then y.ts[(x.n - 1).toNat]? else none
structure a8F (σ:Sub):Prop where
 gW:cS σ
 jY:cV (fun t=>t.jY=true) σ
 okN:cV OkN σ
theorem WJ{x y u:Tm}(h:m7 x y=some u):u∈y.ts:=by
 unfold m7 at h
 split at h
 · exact cD h
 · cases h
theorem WU{s:ByteArray}{n:Nat}(h:isBuiltin s (n:Int)=true) :
 (n=2∧(gC rQ s=true∨s=⟨#[61]⟩∨s=⟨#[92,61]⟩∨s=⟨#[61,61]⟩∨s=⟨#[105,115]⟩))∨(n=0∧(s=⟨#[116,114,117,101]⟩∨s=⟨#[102,97,105,108]⟩)) ∨
 (n=1∧(s=⟨#[118,97,114]⟩∨s=⟨#[110,111,110,118,97,114]⟩∨s=⟨#[97,116,111,109]⟩∨s=⟨#[105,110,116]⟩))∨(n=3∧s=⟨#[97,114,103]⟩):=by
 unfold isBuiltin at h
 simp only[cond_eq_ite] at h
 split at h
 · rename_i h1
   left
   refine⟨by simp at h;omega,?_⟩
   simp only[rE,bO] at h1
   simp only[gC,rQ,B1,List.any_nil,rE,bO,gE,dX]
   rcases h1 with (((((((h1 | h1) | h1) | h1) | h1) | h1) | h1) | h1) | h1<;>simp [h1]
 split at h
 · rename_i h1
   right;left
   refine⟨by simp at h;omega,?_⟩
   simpa using h1
 split at h
 · rename_i h1
   right;right;left
   refine⟨by simp at h;omega,?_⟩
   simp only[rE,bO] at h1
   rcases h1 with ((h1 | h1) | h1) | h1<;>simp [h1]
 split at h
 · rename_i h1
   right;right;right
   exact⟨by simp at h;omega,by simpa using h1⟩
 · cases h
def dL:AV→List Nat
 | .mslice b _ _ _=>[b]
 | _=>[]
def Trail(st:aB)(q:AV)(tr:List Int):Prop:=
 (q=.fslice []∧tr= [])∨∃b cs,q=.mslice b 0 tr.length 1∧st b=some (.cells cs)∧cs.take tr.length=tr.map iv
structure gG (st:aB) (c m:Nat) (q:AV) (σ:Sub) (tr:List Int):Prop where
 sub:iY st c m q σ
 fG:Trail st q tr
 apart:c∉dL q
structure mH (c m:Nat) (st:aB) (q:AV) (st':aB) (q':AV):Prop where
 frame:∀b o,st b=some o→b≠c→b≠m→b∉dL q→st' b=some o
 fresh:∀b∈dL q',b∈dL q∨st b=none
def vG(c m:Nat)(st:aB)(q:AV)(σ':Sub)(tr':List Int)(st':aB):Prop:=∃q',gG st' c m q' σ' tr'∧mH c m st q st' q'
theorem mH.refl(c m:Nat)(st:aB)(q:AV):mH c m st q st q:=⟨fun _ _ h _ _ _=>h,fun _ h=>.inl h⟩
theorem mH.trans{c m:Nat}{st st' yR:aB}{q q' q'':AV}{σ:Sub}{tr:List Int}(x:mH c m st q st' q')(hS:gG st' c m q' σ tr)(y:mH c m st' q' yR q''):mH c m st q yR q'':=by
 refine⟨fun b o h h1 h2 h3=>?_,fun b hb=>?_⟩
 · refine y.frame b o (x.frame b o h h1 h2 h3) h1 h2 fun h4=>?_
   rcases x.fresh b h4 with h5 | h5
   · exact h3 h5
   · rw[h5] at h;cases h
 · rcases y.fresh b hb with h | h
   · exact x.fresh b h
   · by_cases h1:b∈dL q
     · exact .inl h1
     · refine .inr ?_
       cases hst:st b with
       | none=>rfl
       | some o=>
        exfalso
        by_cases hc:b=c
        · subst hc;rw[hS.sub.cells] at h;cases h
        · by_cases hm:b=m
          · subst hm;rw[hS.sub.map] at h;cases h
          · rw[x.frame b o hst hc hm h1] at h;cases h
theorem gG.HS{st:aB}{c m:Nat}{q:AV}{σ:Sub}{tr:List Int}(h:gG st c m q σ tr):∀b∈dL q,∃cs,st b=some (.cells cs):=by
 intro b hb
 rcases h.fG with ⟨rfl,_⟩ | ⟨b',cs,rfl,hb',_⟩
 · simp [dL] at hb
 · simp only[dL,c8,dP,dX] at hb;subst hb;exact⟨cs,hb'⟩
theorem gG.LP{st:aB}{c m:Nat}{q:AV}{σ:Sub}{tr:List Int}(h:gG st c m q σ tr):m∉dL q:=fun hb=>by
 obtain⟨cs,e⟩:=h.HS m hb
 rw[h.sub.map] at e;cases e
theorem gG.aC{st:aB}{c m b:Nat}{q:AV}{σ:Sub}{tr:List Int}{o:AO}(h:gG st c m q σ tr)(h1:b≠c)(h2:b≠m)(h3:b∉dL q):gG (st.aC b o) c m q σ tr:=by
 refine⟨h.sub.NE h1 h2,?_,h.apart⟩
 rcases h.fG with h4 | ⟨b',cs,e1,e2,e3⟩
 · exact .inl h4
 · refine .inr ⟨b',cs,e1,?_,e3⟩
   rw[aB.aM _ _ (by rintro rfl;exact h3 (by rw[e1];simp [dL]))]
   exact e2
theorem gG.EV{st:aB}{c m b:Nat}{q:AV}{σ:Sub}{tr:List Int}{o:AO}(h:gG st c m q σ tr)(hb:st b=none):gG (st.aC b o) c m q σ tr:=
 h.aC (h.sub.ne hb).1 (h.sub.ne hb).2 fun h3=>by obtain⟨cs,e⟩:=h.HS b h3;rw[hb] at e;cases e
theorem mH.EV{c m b:Nat}{st:aB}{q:AV}{o:AO}(hb:st b=none):mH c m st q (st.aC b o) q:=
 ⟨fun x p h _ _ _=>by rw[aB.aM _ _ (by rintro rfl;rw[hb] at h;cases h)];exact h,fun _ h=>.inl h⟩
theorem gG.shape{st:aB}{c m:Nat}{q:AV}{σ:Sub}{tr:List Int}(h:gG st c m q σ tr):q.isAgg=false∧q.width=1∧q.cE=false∧q.cells= [q]∧q.storable=true:=by
 rcases h.fG with ⟨rfl,_⟩ | ⟨b',cs,rfl,_⟩<;>exact⟨rfl,rfl,rfl,rfl,rfl⟩
theorem vG.from{c m:Nat}{st s0 st':aB}{q q0:AV}{σ σ':Sub}{tr tr':List Int}(h:vG c m s0 q0 σ' tr' st')(x:mH c m st q s0 q0)(hS:gG s0 c m q0 σ tr):vG c m st q σ' tr' st':=by
 obtain⟨q',h1,h2⟩:=h
 exact⟨q',h1,x.trans hS h2⟩
theorem a68{P:Program}{t:TypeId}{ag:Bool}{bytes:Nat}{zs:List AV}{st:aB}{c m:Nat}{q:AV}{σ:Sub}{tr:List Int}{n:Int}{K:AV→aB→Prop}(hI:eI P t=some (ag,1))(hB:eB P t=some bytes)(hZ:eZ P t=some zs)(hz:zs.length=1)(hb8:bytes≤16)
 (h:gG st c m q σ tr) (hl:tr.length+1≤1099511627776)
 (hK:∀q' st',Trail st' q' (tr++ [n])→c∉dL q'→m∉dL q'→(∀x,x∉dL q→x∉dL q'→st' x=st x)→(∀x∈dL q',x∈dL q∨st x=none)→K q' st'):kD P t st q (.fslice [.int .i64 n]) K:=by
 have fF:vO 1 [AV.int .i64 n]:=by intro e he;simp only[c8,dP,dX] at he;subst he;exact⟨rfl,rfl⟩
 have GN:(tr.length+1)*bytes≤140737488355328:=by
  have:=Nat.mul_le_mul hl hb8
  omega
 unfold kD
 simp only[hI,hB,hZ,zT]
 refine⟨hz,fF,?_⟩
 have hcm:∀x,st x=none→x≠c∧x≠m:=fun x hx=>h.sub.ne hx
 rcases h.fG with ⟨rfl,rfl⟩ | ⟨b,cs,rfl,hb,hcs⟩
 · simp only[aW,aS,fZ] at GN ⊢
   refine⟨by omega,by omega,by simp,fun h=>by simp at h,fun _ b hb=>?_⟩
   refine hK _ _ (.inr ⟨b,[.int .i64 n],rfl,aB.aO _ _ _,rfl⟩) (by simp only[dL,c8,dP,dX];exact c7 (hcm b hb).1) (by simp only[dL,c8,dP,dX];exact c7 (hcm b hb).2) (fun x _ hx=>?_) (fun x hx=>?_)
   · simp only[dL,c8,dP,dX] at hx
     rw[aB.aM _ _ hx]
   · simp only[dL,c8,dP,dX] at hx
     subst hx;exact .inr hb
 · simp only[aS,aW,fZ,hb]
   have hlen:tr.length≤cs.length:=by
    have:=fE List.length hcs
    simp only[dC,aE] at this
    omega
   have hca:c≠b:=fun e=>h.apart (by simp [dL,e])
   have hma:m≠b:=fun e=>h.LP (by simp [dL,e])
   have mM:cs.take (tr.length*1)++ [AV.int .i64 n].flatMap AV.cells=(tr++ [n]).map iv:=by rw[vF,hcs];simp [AV.cells]
   refine⟨trivial,GN,by omega,by omega,?_,fun b' hb'=>?_⟩
   · rw[mM]
     refine hK _ _ (.inr ⟨b,_,by simp,aB.aO _ _ _,by rw[lC (by simp)]⟩) (by simpa [dL] using hca) (by simpa [dL] using hma) (fun x hx _=>?_) (fun x hx=>.inl hx)
     simp only[dL,c8,dP,dX] at hx
     rw[aB.aM _ _ hx]
   · rw[mM]
     obtain⟨hc',hm'⟩:=hcm b' hb'
     refine hK _ _ (.inr ⟨b',_,by simp,aB.aO _ _ _,by rw[lC (by simp)]⟩) (by simpa [dL] using c7 hc') (by simpa [dL] using c7 hm') (fun x hx hx'=>?_) (fun x hx=>?_)
     · simp only[dL,c8,dP,dX] at hx hx'
       rw[aB.aM _ _ hx']
       simp [aB.erase,hx]
     · simp only[dL,c8,dP,dX] at hx
       subst hx;exact .inr hb'
end Go.AW
