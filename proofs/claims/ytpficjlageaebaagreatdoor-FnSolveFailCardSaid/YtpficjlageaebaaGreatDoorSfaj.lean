/- Unification comes to an end. -/
import Derived.Test.YtpficjlageaebaaGreatDoorSfai
import Derived.Test.YtpficjlageaebaaGreatDoorSfaf
import Derived.Test.YtpficjlageaebaaGreatDoorSfah
set_option linter.unusedSimpArgs false
set_option linter.unusedVariables false
set_option maxRecDepth 100000
namespace Go.AW
theorem SN (g g' : Nat) (ih : ∀ σ a b x, dD g σ a b = some x → dD g' σ a b = some x) : ∀ xs ys σ x, dU g σ xs ys = some x → dU g' σ xs ys = some x := by
 intro xs
 induction xs with
 | nil => intro ys σ x h; cases ys <;> simpa only [dU] using h
 | cons a xs ihx =>
  intro ys σ x h
  cases ys with
  | nil => simpa only [dU] using h
  | cons b ys =>
   rw [dU] at h ⊢
   cases h1 : dD g σ a b with
   | none => rw [h1] at h; cases h
   | some p =>
    rw [h1] at h
    rw [ih _ _ _ _ h1]
    obtain ⟨r1, σ1, tr1⟩ := p
    cases r1 with
    | false => exact h
    | true =>
     simp only at h ⊢
     cases h2 : dU g σ1 xs ys with
     | none => rw [h2] at h; cases h
     | some p2 => rw [h2] at h; rw [ihx ys σ1 p2 h2]; exact h
theorem a0D : ∀ (g : Nat) σ a b x, dD g σ a b = some x → dD (g + 1) σ a b = some x := by
 intro g
 induction g with
 | zero => intro σ a b x h; simp only [dD] at h; cases h
 | succ g ih =>
  intro σ a b x h
  rw [dD] at h ⊢
  split
  · rename_i hc; rw [aG hc] at h; exact h
  · rename_i hc
    rw [aE hc] at h
    split
    · rename_i hc; rw [aG hc] at h; exact h
    · rename_i hc
      rw [aE hc] at h
      split
      · rename_i hc; rw [aG hc] at h; exact h
      · rename_i hc
        rw [aE hc] at h
        split
        · rename_i hc; rw [aG hc] at h; exact SN g (g + 1) ih _ _ _ _ h
        · rename_i hc; rw [aE hc] at h; exact h
theorem JK {g g' : Nat} (hle : g ≤ g') {σ : Sub} {a b : Tm} {x : Bool × Sub × List Int} (h : dD g σ a b = some x) : dD g' σ a b = some x := by
 induction hle with
 | refl => exact h
 | step _ ih => exact a0D _ _ _ _ _ ih
theorem aRY {g g' : Nat} (hle : g ≤ g') {σ : Sub} {xs ys : List Tm} {x : Bool × Sub × List Int} (h : dU g σ xs ys = some x) : dU g' σ xs ys = some x :=
 SN g g' (fun _ _ _ _ h => JK hle h) xs ys σ x h
def rV (σ : Sub) (V : List Int) : Nat := V.countP fun v => (σ v).isNone
def iR (V : List Int) (t : Tm) : Prop := ∀ v ∈ t.vl, v ∈ V
def lV (V : List Int) (σ : Sub) : Prop := ∀ n u, σ n = some u → iR V u
theorem aPZ {σ σ' : Sub} {tr : List Int} {V : List Int} (a8 : ∀ m, m ∉ tr → σ' m = σ m) (new : ∀ m ∈ tr, σ m = none ∧ σ' m ≠ none) {m : Int} (hm : m ∈ tr) (hV : m ∈ V) : rV σ' V < rV σ V := by
 have mono : ∀ v, (σ' v).isNone = true → (σ v).isNone = true := fun v h => by
  by_cases hv : v ∈ tr
  · rw [(new v hv).1]; try rfl
  · rw [← a8 v hv]; exact h
 have le : ∀ W : List Int, rV σ' W ≤ rV σ W := fun W => List.countP_mono_left fun v _ h => mono v h
 unfold rV at *
 induction V with
 | nil => cases hV
 | cons v V ih =>
  simp only [List.countP_cons]
  have hle := le V
  rcases cY.1 hV with rfl | hV
  · have h1 : (σ m).isNone = true := by rw [(new m hm).1]; try rfl
    have h2 : (σ' m).isNone = false := by
     cases h : σ' m with
     | none => exact absurd h (new m hm).2
     | some _ => rfl
    simp only [h1, h2, fZ, jD, dZ]
    omega
  · have := ih hV
    have h3 := mono v
    by_cases h4 : (σ' v).isNone = true
    · rw [aG h4, aG (h3 h4)]; omega
    · rw [aE h4]; split <;> omega
theorem fQ.DL {σ : Sub} {V : List Int} (hr : lV V σ) {f : Nat} {t u : Tm} (h : fQ σ f t u) (ht : iR V t) : iR V u := h.all (p := iR V) (fun n u hu => hr n u hu) ht
theorem iR.nU {V : List Int} {t x : Tm} (h : iR V t) (hk : t.k ≠ 1) (hx : x ∈ t.ts) : iR V x := fun v hv => h v (by cases t; exact (Tm.kJ hk).2 ⟨x, hx, hv⟩)
theorem aDZ : ∀ (g : Nat), (∀ σ a b r σ' tr V, cL σ → dD g σ a b = some (r, σ', tr) → lV V σ → iR V a → iR V b → lV V σ' ∧ ∀ m ∈ tr, m ∈ V) ∧
 ∀ xs ys σ r σ' tr V, cL σ → xs.length = ys.length → dU g σ xs ys = some (r, σ', tr) → lV V σ → (∀ x ∈ xs, iR V x) → (∀ y ∈ ys, iR V y) → lV V σ' ∧ ∀ m ∈ tr, m ∈ V := by
 intro g
 have list : ∀ g, (∀ σ a b r σ' tr V, cL σ → dD g σ a b = some (r, σ', tr) → lV V σ → iR V a → iR V b → lV V σ' ∧ ∀ m ∈ tr, m ∈ V) →
  ∀ xs ys σ r σ' tr V, cL σ → xs.length = ys.length → dU g σ xs ys = some (r, σ', tr) → lV V σ → (∀ x ∈ xs, iR V x) → (∀ y ∈ ys, iR V y) → lV V σ' ∧ ∀ m ∈ tr, m ∈ V := by
  intro g ihU xs
  induction xs with
  | nil =>
   intro ys σ r σ' tr V hg hl h hr _ _
   cases ys with
   | cons _ _ => simp at hl
   | nil =>
    simp only [dU, Option.some.injEq, Prod.mk.injEq] at h
    obtain ⟨rfl, rfl, rfl⟩ := h
    exact ⟨hr, fun _ h => absurd h (dP)⟩
  | cons a xs ih =>
   intro ys σ r σ' tr V hg hl h hr hx hy
   cases ys with
   | nil => simp at hl
   | cons b ys =>
    rw [dU] at h
    cases h1 : dD g σ a b with
    | none => rw [h1] at h; cases h
    | some p =>
     obtain ⟨r1, σ1, tr1⟩ := p
     have U1 := uT hg h1
     obtain ⟨i1, i2⟩ := ihU σ a b r1 σ1 tr1 V hg h1 hr (hx a (by simp)) (hy b (by simp))
     rw [h1] at h
     cases r1 with
     | false =>
      simp only [Option.some.injEq, Prod.mk.injEq] at h
      obtain ⟨rfl, rfl, rfl⟩ := h
      exact ⟨i1, i2⟩
     | true =>
      simp only at h
      cases h2 : dU g σ1 xs ys with
      | none => rw [h2] at h; cases h
      | some p2 =>
       obtain ⟨r2, σ2, tr2⟩ := p2
       rw [h2] at h
       simp only [Option.some.injEq, Prod.mk.injEq] at h
       obtain ⟨rfl, rfl, rfl⟩ := h
       obtain ⟨j1, j2⟩ := ih ys σ1 r2 σ2 tr2 V U1.gK (by simpa using hl) h2 i1 (fun x h => hx x (by simp [h])) (fun y h => hy y (by simp [h]))
       exact ⟨j1, fun m hm => (fS.1 hm).elim (i2 m) (j2 m)⟩
 induction g with
 | zero =>
  have h0 : ∀ σ a b r σ' tr V, cL σ → dD 0 σ a b = some (r, σ', tr) → lV V σ → iR V a → iR V b → lV V σ' ∧ ∀ m ∈ tr, m ∈ V := fun σ a b r σ' tr V hg h => by simp only [dD] at h; cases h
  exact ⟨h0, list 0 h0⟩
 | succ g ih =>
  suffices hU : ∀ σ a b r σ' tr V, cL σ → dD (g + 1) σ a b = some (r, σ', tr) → lV V σ → iR V a → iR V b → lV V σ' ∧ ∀ m ∈ tr, m ∈ V from ⟨hU, list _ hU⟩
  intro σ a b r σ' tr V hg h hr ha hb
  obtain ⟨_, ihL⟩ := ih
  obtain ⟨rk, B, G⟩ := hg.rs
  obtain ⟨fa, wa⟩ := G.wk a
  obtain ⟨fb, wb⟩ := G.wk b
  have va := wa.DL hr ha
  have vb := wb.DL hr hb
  have bn : ∀ n (t : Tm) r σ' tr, n ∈ V → iR V t → jU σ n t = (r, σ', tr) → lV V σ' ∧ ∀ m ∈ tr, m ∈ V := by
   intro n t r σ' tr hn ht h
   unfold jU at h
   split at h <;> cases h
   · exact ⟨hr, fun _ h => absurd h (dP)⟩
   · refine ⟨fun m u hu => ?_, fun m hm => by simp only [cY, dP, d4] at hm; rw [hm]; exact hn⟩
     simp only [Sub.set] at hu
     split at hu
     · cases hu; exact ht
     · exact hr m u hu
  rw [dD] at h
  generalize wk σ a = a at *
  generalize wk σ b = b at *
  split at h
  · simp only [Option.some.injEq, Prod.mk.injEq] at h
    obtain ⟨rfl, rfl, rfl⟩ := h
    exact ⟨hr, fun _ h => absurd h (dP)⟩
  · split at h
    · rename_i hk
      exact bn _ _ _ _ _ (va _ (by rw [Tm.AG hk]; simp)) vb (nG h)
    · rename_i hka
      split at h
      · rename_i hk
        exact bn _ _ _ _ _ (vb _ (by rw [Tm.AG hk]; simp)) va (nG h)
      · rename_i hkb
        split at h
        · rename_i hh
          exact ihL a.ts b.ts σ r σ' tr V hg (rK.1 hh).2.2.2 h hr (fun x hx => va.nU hka hx) (fun y hy => vb.nU hkb hy)
        · simp only [Option.some.injEq, Prod.mk.injEq] at h
          obtain ⟨rfl, rfl, rfl⟩ := h
          exact ⟨hr, fun _ h => absurd h (dP)⟩
def cP (p : Tm → Prop) (σ : Sub) : Prop := ∀ n u, σ n = some u → p u
theorem HU {p : Tm → Prop} (hp : ∀ t : Tm, t.k ≠ 1 → p t → ∀ x ∈ t.ts, p x) : ∀ (g : Nat), (∀ σ a b r σ' tr, cL σ → dD g σ a b = some (r, σ', tr) → cP p σ → p a → p b → cP p σ') ∧
 ∀ xs ys σ r σ' tr, cL σ → xs.length = ys.length → dU g σ xs ys = some (r, σ', tr) → cP p σ → (∀ x ∈ xs, p x) → (∀ y ∈ ys, p y) → cP p σ' := by
 intro g
 have list : ∀ g, (∀ σ a b r σ' tr, cL σ → dD g σ a b = some (r, σ', tr) → cP p σ → p a → p b → cP p σ') →
  ∀ xs ys σ r σ' tr, cL σ → xs.length = ys.length → dU g σ xs ys = some (r, σ', tr) → cP p σ → (∀ x ∈ xs, p x) → (∀ y ∈ ys, p y) → cP p σ' := by
  intro g ihU xs
  induction xs with
  | nil =>
   intro ys σ r σ' tr hg hl h hr _ _
   cases ys with
   | cons _ _ => simp at hl
   | nil =>
    simp only [dU, Option.some.injEq, Prod.mk.injEq] at h
    obtain ⟨rfl, rfl, rfl⟩ := h
    exact hr
  | cons a xs ih =>
   intro ys σ r σ' tr hg hl h hr hx hy
   cases ys with
   | nil => simp at hl
   | cons b ys =>
    rw [dU] at h
    cases h1 : dD g σ a b with
    | none => rw [h1] at h; cases h
    | some p =>
     obtain ⟨r1, σ1, tr1⟩ := p
     have U1 := uT hg h1
     have i1 := ihU σ a b r1 σ1 tr1 hg h1 hr (hx a (by simp)) (hy b (by simp))
     rw [h1] at h
     cases r1 with
     | false =>
      simp only [Option.some.injEq, Prod.mk.injEq] at h
      obtain ⟨rfl, rfl, rfl⟩ := h
      exact i1
     | true =>
      simp only at h
      cases h2 : dU g σ1 xs ys with
      | none => rw [h2] at h; cases h
      | some p2 =>
       obtain ⟨r2, σ2, tr2⟩ := p2
       rw [h2] at h
       simp only [Option.some.injEq, Prod.mk.injEq] at h
       obtain ⟨rfl, rfl, rfl⟩ := h
       have j1 := ih ys σ1 r2 σ2 tr2 U1.gK (by simpa using hl) h2 i1 (fun x h => hx x (by simp [h])) (fun y h => hy y (by simp [h]))
       exact j1
 induction g with
 | zero =>
  have h0 : ∀ σ a b r σ' tr, cL σ → dD 0 σ a b = some (r, σ', tr) → cP p σ → p a → p b → cP p σ' := fun σ a b r σ' tr hg h => by simp only [dD] at h; cases h
  exact ⟨h0, list 0 h0⟩
 | succ g ih =>
  suffices hU : ∀ σ a b r σ' tr, cL σ → dD (g + 1) σ a b = some (r, σ', tr) → cP p σ → p a → p b → cP p σ' from ⟨hU, list _ hU⟩
  intro σ a b r σ' tr hg h hr ha hb
  obtain ⟨_, ihL⟩ := ih
  obtain ⟨rk, B, G⟩ := hg.rs
  obtain ⟨fa, wa⟩ := G.wk a
  obtain ⟨fb, wb⟩ := G.wk b
  have va := wa.all hr ha
  have vb := wb.all hr hb
  have bn : ∀ n (t : Tm) r σ' tr, p t → jU σ n t = (r, σ', tr) → cP p σ' := by
   intro n t r σ' tr ht h
   unfold jU at h
   split at h <;> cases h
   · exact hr
   · intro m u hu
     simp only [Sub.set] at hu
     split at hu
     · cases hu; exact ht
     · exact hr m u hu
  rw [dD] at h
  generalize wk σ a = a at *
  generalize wk σ b = b at *
  split at h
  · simp only [Option.some.injEq, Prod.mk.injEq] at h
    obtain ⟨rfl, rfl, rfl⟩ := h
    exact hr
  · split at h
    · rename_i hk
      exact bn _ _ _ _ _ vb (nG h)
    · rename_i hka
      split at h
      · rename_i hk
        exact bn _ _ _ _ _ va (nG h)
      · rename_i hkb
        split at h
        · rename_i hh
          exact ihL a.ts b.ts σ r σ' tr hg (rK.1 hh).2.2.2 h hr (fun x hx => hp _ hka va x hx) (fun y hy => hp _ hkb vb y hy)
        · simp only [Option.some.injEq, Prod.mk.injEq] at h
          obtain ⟨rfl, rfl, rfl⟩ := h
          exact hr
theorem aSF (V : List Int) : ∀ (N M : Nat) (σ : Sub) (a b : Tm), cL σ → lV V σ → iR V a → iR V b → rV σ V ≤ N → (a.aJ (rs σ)).nodes ≤ M → ∃ g x, dD g σ a b = some x := by
 intro N
 induction N using Nat.strongRecOn with
 | _ N ihN =>
 intro M
 induction M using Nat.strongRecOn with
 | _ M ihM =>
 intro σ a b hg hr ha hb hN hM
 have list : ∀ (xs ys : List Tm) (σ1 : Sub), xs.length = ys.length → cL σ1 → lV V σ1 → (σ1 = σ ∨ rV σ1 V < rV σ V) → (∀ x ∈ xs, iR V x ∧ (x.aJ (rs σ)).nodes < M) → (∀ y ∈ ys, iR V y) → ∃ g x, dU g σ1 xs ys = some x := by
  intro xs
  induction xs with
  | nil =>
   intro ys σ1 hl _ _ _ _ _
   cases ys with
   | cons _ _ => simp at hl
   | nil => exact ⟨0, (true, σ1, []), by simp only [dU]⟩
  | cons x xs ih =>
   intro ys σ1 hl hg1 hr1 hc hx hy
   cases ys with
   | nil => simp at hl
   | cons y ys =>
    have h1 : ∃ g p, dD g σ1 x y = some p := by
     rcases hc with rfl | hlt
     · exact ihM _ (hx x (by simp)).2 σ1 x y hg1 hr1 (hx x (by simp)).1 (hy y (by simp)) hN (c7 _)
     · exact ihN (rV σ1 V) (by omega) _ σ1 x y hg1 hr1 (hx x (by simp)).1 (hy y (by simp)) (c7 _) (c7 _)
    obtain ⟨g1, ⟨r1, σ2, tr1⟩, h1⟩ := h1
    have U1 := uT hg1 h1
    obtain ⟨i1, i2⟩ := (aDZ g1).1 σ1 x y r1 σ2 tr1 V hg1 h1 hr1 (hx x (by simp)).1 (hy y (by simp))
    cases r1 with
    | false => exact ⟨g1, (false, σ2, tr1), by rw [dU, h1]⟩
    | true =>
     have hc2 : σ2 = σ ∨ rV σ2 V < rV σ V := by
      cases htr : tr1 with
      | nil => rw [U1.same htr]; exact hc
      | cons m _ =>
       have := aPZ (V := V) U1.a8 U1.new (m := m) (by rw [htr]; simp) (i2 m (by rw [htr]; simp))
       rcases hc with rfl | hlt
       · exact .inr this
       · exact .inr (Nat.lt_trans this hlt)
     obtain ⟨g2, p2, h2⟩ := ih ys σ2 (by simpa using hl) U1.gK i1 hc2 (fun z hz => hx z (by simp [hz])) (fun z hz => hy z (by simp [hz]))
     obtain ⟨r2, σ3, tr2⟩ := p2
     refine ⟨max g1 g2, (r2, σ3, tr1 ++ tr2), ?_⟩
     rw [dU, JK (Nat.le_max_left g1 g2) h1]
     simp only
     rw [aRY (Nat.le_max_right g1 g2) h2]
 obtain ⟨rk, B, G⟩ := hg.rs
 obtain ⟨fa, wa⟩ := G.wk a
 obtain ⟨fb, wb⟩ := G.wk b
 have va := wa.DL hr ha
 have vb := wb.DL hr hb
 have hma := wa.aJ G.uR
 rw [← hma] at hM
 by_cases h1 : (wk σ a).k = 1 ∧ (wk σ b).k = 1 ∧ (wk σ a).n = (wk σ b).n
 · exact ⟨1, _, by rw [dD, aG h1]⟩
 by_cases h2 : (wk σ a).k = 1
 · exact ⟨1, _, by rw [dD, aE h1, aG h2]⟩
 by_cases h3 : (wk σ b).k = 1
 · exact ⟨1, _, by rw [dD, aE h1, aE h2, aG h3]⟩
 by_cases h4 : tR (wk σ a) (wk σ b) = true
 · have aR5 : ∀ x ∈ (wk σ a).ts, iR V x ∧ (x.aJ (rs σ)).nodes < M := fun x hx => by
    refine ⟨va.nU h2 hx, ?_⟩
    rw [Tm.qJ _ h2, Tm.gP] at hM
    have := DQ (f := Tm.nodes) (cU.2 ⟨x, hx, rfl⟩ : x.aJ (rs σ) ∈ (wk σ a).ts.map (Tm.aJ (rs σ)))
    omega
   obtain ⟨g, x, h⟩ := list (wk σ a).ts (wk σ b).ts σ (rK.1 h4).2.2.2 hg hr (.inl rfl) aR5 (fun y hy => vb.nU h3 hy)
   exact ⟨g + 1, x, by rw [dD, aE h1, aE h2, aE h3, aG h4]; exact h⟩
 · exact ⟨1, _, by rw [dD, aE h1, aE h2, aE h3, aE h4]⟩
mutual
def Tm.flat : Tm → Nat → Bool
 | .mk _ _ _ _, 0 => false
 | .mk _ _ _ ts, d + 1 => IN ts d
def IN : List Tm → Nat → Bool
 | [], _ => true
 | t :: ts, d => t.flat d && IN ts d
end
theorem aJ3 : ∀ (ts : List Tm) (d : Nat), IN ts d = ts.all fun t => t.flat d
 | [], _ => rfl
 | t :: ts, d => by simp only [IN, kG, aJ3 ts d]
theorem Tm.DH (t : Tm) : t.flat 0 = false := by cases t; simp only [Tm.flat]
theorem Tm.uK (k n : Int) (s : ByteArray) (ts : List Tm) (d : Nat) : (Tm.mk k n s ts).flat (d + 1) = ts.all fun t => t.flat d := by simp only [Tm.flat, aJ3]
mutual
def Tm.jN : Tm → Bool
 | .mk k n s ts => eE k n s ts.length && K1 ts
def K1 : List Tm → Bool
 | [] => true
 | t :: ts => t.jN && K1 ts
end
theorem SM : ∀ (ts : List Tm), K1 ts = ts.all Tm.jN
 | [] => rfl
 | t :: ts => by simp only [K1, kG, SM ts]
theorem Tm.yL (k n : Int) (s : ByteArray) (ts : List Tm) : (Tm.mk k n s ts).jN = (eE k n s ts.length && ts.all Tm.jN) := by simp only [Tm.jN, SM]
theorem YI {α : Type} (p q : α → Bool) : ∀ l : List α, (l.all fun x => p x && q x) = (l.all p && l.all q)
 | [] => rfl
 | x :: l => by simp only [kG, YI p q l]; cases p x <;> cases q x <;> cases l.all p <;> simp
theorem Tm.aLK : ∀ (t : Tm) (d : Nat), t.shape (d : Int) = (t.jN && t.flat d) := by
 intro t
 induction t using Tm.ind with
 | h k n s ts ih =>
  intro d
  cases d with
  | zero => rw [Tm.DH, tW, Tm.BV]; try rfl
  | succ d =>
   rw [Tm.BV, Tm.yL, Tm.uK, show decide ((1 : Int) ≤ ((d + 1 : Nat) : Int)) = true by simp; omega, eT, Bool.and_assoc, ← YI]
   congr 1
   rw [show (((d + 1 : Nat) : Int) - 1) = (d : Int) by omega]
   have : ∀ l : List Tm, (∀ x ∈ l, x ∈ ts) → (l.all fun t => t.shape (d : Int)) = l.all fun x => x.jN && x.flat d := by
    intro l
    induction l with
    | nil => intro _; rfl
    | cons x l ihl => intro h; rw [kG, kG, ih x (h x (by simp)), ihl fun y hy => h y (by simp [hy])]
   exact this ts fun _ h => h
theorem Tm.aZY {t : Tm} (h : t.valid = true) : t.jN = true := by
 simp only [Tm.valid, cM] at h
 have := h.1
 rw [show (30 : Int) = ((30 : Nat) : Int) from rfl, Tm.aLK, cM] at this
 exact this.1
theorem Tm.aD4 {t : Tm} (h : t.jN = true) : t.valid = (t.flat 30 && decide (t.nodes ≤ 120)) := by
 unfold Tm.valid
 rw [show (30 : Int) = ((30 : Nat) : Int) from rfl, Tm.aLK, h, eT]
theorem Tm.H7 {k n : Int} {s : ByteArray} {ts : List Tm} (h : (Tm.mk k n s ts).jN = true) : eE k n s ts.length = true ∧ ∀ x ∈ ts, x.jN = true := by
 rw [Tm.yL, cM] at h
 exact ⟨h.1, eW.1 h.2⟩
theorem UN {n : Int} {s : ByteArray} {len : Int} (h : eE 1 n s len = true) : 0 ≤ n ∧ n ≤ 25 ∧ s = ⟨#[]⟩ ∧ len = 0 := by
 simp [eE] at h
 exact ⟨h.1.1.1, h.1.1.2, h.1.2, h.2⟩
theorem aO4 {k n : Int} {s : ByteArray} {len : Int} (h : eE k n s len = true) : (k = 1 ∨ k = 2 ∨ k = 3) ∧ len ≤ 4 := by
 unfold eE at h
 by_cases h1 : k = 1
 · simp [h1] at h; omega
 · by_cases h2 : k = 2
   · simp [h2] at h; omega
   · by_cases h3 : k = 3
     · simp [h3] at h; omega
     · simp [h1, h2, h3] at h
theorem Tm.aSB : ∀ (t : Tm), t.jN = true → t.cv = true := by
 intro t
 induction t using Tm.ind with
 | h k n s ts ih =>
  intro h
  obtain ⟨h1, h2⟩ := Tm.H7 h
  refine Tm.nW.2 ⟨fun hk => ?_, fun x hx => ih x hx (h2 x hx)⟩
  subst hk
  obtain ⟨_, _, h3, h4⟩ := UN h1
  exact ⟨h3, sM (by omega)⟩
def CV : List Int := (List.range 26).map fun i : Nat => (i : Int)
theorem DZ {n : Int} : n ∈ CV ↔ 0 ≤ n ∧ n ≤ 25 := by
 simp only [CV, cU, xR]
 constructor
 · rintro ⟨i, h, rfl⟩; omega
 · intro h; exact ⟨n.toNat, by omega, by omega⟩
theorem Tm.aPK : ∀ (t : Tm), t.jN = true → iR CV t := by
 intro t
 induction t using Tm.ind with
 | h k n s ts ih =>
  intro h v hv
  obtain ⟨h1, h2⟩ := Tm.H7 h
  by_cases hk : k = 1
  · rw [Tm.mI hk] at hv
    simp only [cY, dP, d4] at hv
    subst hv hk
    obtain ⟨h3, h4, _⟩ := UN h1
    exact DZ.2 ⟨h3, h4⟩
  · obtain ⟨x, hx, hvx⟩ := (Tm.kJ hk).1 hv
    exact ih x hx (h2 x hx) v hvx
theorem aUR {f : Int → Tm} : ∀ (t : Tm), t.jN = true → (∀ v ∈ t.vl, (f v).jN = true) → (t.aJ f).jN = true := by
 intro t
 induction t using Tm.ind with
 | h k n s ts ih =>
  intro h hf
  obtain ⟨h1, h2⟩ := Tm.H7 h
  by_cases hk : k = 1
  · rw [Tm.mM f hk]; exact hf n (by rw [Tm.mI hk]; simp)
  · rw [Tm.lB f hk, Tm.yL, aF, h1, eT, List.all_map, eW]
    exact fun x hx => ih x hx (h2 x hx) fun v hv => hf v ((Tm.kJ hk).2 ⟨x, hx, hv⟩)
theorem XW {n : Int} (h : n ∈ CV) : (vr n).jN = true := by
 rw [DZ] at h
 rw [vr, Tm.yL]
 simp [eE, h]
theorem aP1 {g g' : Nat} {σ : Sub} {a b : Tm} {x y : Bool × Sub × List Int} (h : dD g σ a b = some x) (h' : dD g' σ a b = some y) : x = y := by
 have h1 := JK (Nat.le_max_left g g') h
 rw [JK (Nat.le_max_right g g') h'] at h1
 exact (nG h1).symm
structure a2S (a b : Tm) (r : Bool) (σ : Sub) (tr : List Int) : Prop where
 run : ∃ g, dD g Sub.none a b = some (r, σ, tr)
 l9 : nL Sub.none [a] [b] r σ tr
 jN : cP (fun t => t.jN = true) σ
 DL : lV CV σ
 trV : ∀ m ∈ tr, m ∈ CV
theorem aCD : ∀ {l V : List Int}, l.Nodup → (∀ x ∈ l, x ∈ V) → l.length ≤ V.length
 | [], _, _, _ => jE _
 | x :: l, V, h, hV => by
  rw [List.nodup_cons] at h
  have hx := hV x (by simp)
  have := aCD (V := V.erase x) h.2 fun y hy => (List.mem_erase_of_ne (by rintro rfl; exact h.1 hy)).2 (hV y (by simp [hy]))
  rw [List.length_erase_of_mem hx] at this
  have := List.length_pos_of_mem hx
  simp only [aS]
  omega
structure a1N (a b : Tm) (bs : List Bd) : Prop where
 va : a.valid = true
 vb : b.valid = true
 vs : (bs.all fun x => x.2.valid) = true
 eq : a.aJ (MW bs) = b.aJ (MW bs)
 idem : ∀ x ∈ bs, x.2.aJ (MW bs) = x.2
 sorted : bs.Pairwise fun x y => x.1 < y.1
abbrev zt : AV := .agg [.int .i64 0, .int .i64 0, .str ⟨#[]⟩, .fslice []]
def mapOf (σ : Sub) : Int → Option AV := fun n => (σ n).map Tm.av
def found : Option Tm → AV
 | some u => .tup [u.av, .bool true]
 | none => .tup [zt, .bool false]
theorem aMP {P : Program} {st : aB} {m : Nat} {σ : Sub} {t kt et : TypeId} {n : Int} (hm : st m = some (.map (mapOf σ))) (hu : P.underlying t = some (.map kt et)) (hk : P.underlying kt = some (.int .i64)) (hz : zV P et = some zt) :
 oI P st t true (.map m) (.int .i64 n) = some (found (σ n)) := by
 unfold oI
 simp only [hm, hu, hk, mapOf]
 cases h : σ n with
 | none => simp [hz, found, AV.cB]
 | some u => simp [found, cG]
theorem aRR {P : Program} {st : aB} {m : Nat} {σ : Sub} {t kt et : TypeId} {n : Int} {u : Tm} {K : AV → aB → Prop} (hm : st m = some (.map (mapOf σ))) (hu : P.underlying t = some (.map kt et)) (hk : P.underlying kt = some (.int .i64))
 (h : K .undef (st.aC m (.map (mapOf (σ.set n u))))) : sE P t st (.map m) (.int .i64 n) u.av K := by
 unfold sE
 simp only [hu, hm, hk]
 refine ⟨cG u, ?_⟩
 have : mT (mapOf σ) n (some u.av) = mapOf (σ.set n u) := by
  funext x
  unfold mT mapOf Sub.set
  split <;> rfl
 rw [this]
 exact h
structure iM (st : aB) (c m : Nat) (q : AV) (σ : Sub) : Prop where
 cells : st c = some (.cells [.map m, q])
 map : st m = some (.map (mapOf σ))
theorem iM.aC {st : aB} {c m b : Nat} {q : AV} {σ : Sub} {o : AO} (h : iM st c m q σ) (hb : st b = none) : iM (st.aC b o) c m q σ :=
 ⟨(by rw [aB.aM _ _ (by rintro rfl; rw [h.cells] at hb; cases hb)]; exact h.cells), (by rw [aB.aM _ _ (by rintro rfl; rw [h.map] at hb; cases hb)]; exact h.map)⟩
theorem iM.HL {st : aB} {c m b : Nat} {q : AV} {σ : Sub} {o : AO} (h : iM st c m q σ) (h1 : b ≠ c) (h2 : b ≠ m) : iM (st.aC b o) c m q σ :=
 ⟨(by rw [aB.aM _ _ (dB h1)]; exact h.cells), by rw [aB.aM _ _ (dB h2)]; exact h.map⟩
theorem iM.ne {st : aB} {c m b : Nat} {q : AV} {σ : Sub} (h : iM st c m q σ) (hb : st b = none) : b ≠ c ∧ b ≠ m := ⟨(by rintro rfl; rw [h.cells] at hb; cases hb), (by rintro rfl; rw [h.map] at hb; cases hb)⟩
theorem iM.cm {st : aB} {c m : Nat} {q : AV} {σ : Sub} (h : iM st c m q σ) : c ≠ m := by rintro rfl; have := h.cells; rw [h.map] at this; cases this
def kZ (M : List Int) : Int → Option AV := fun x => if x ∈ M then some (.bool true) else none
theorem aZ2 {P : Program} {st : aB} {mm : Nat} {M : List Int} {t kt et : TypeId} {n : Int} (hm : st mm = some (.map (kZ M))) (hu : P.underlying t = some (.map kt et)) (hk : P.underlying kt = some (.int .i64)) (hz : zV P et = some (.bool false)) :
 oI P st t false (.map mm) (.int .i64 n) = some (.bool (decide (n ∈ M))) := by
 unfold oI
 simp only [hm, hu, hk, kZ]
 by_cases h : n ∈ M
 · simp [h, AV.cB]
 · simp [h, hz, AV.cB]
theorem aO1 {P : Program} {st : aB} {mm : Nat} {M : List Int} {t kt et : TypeId} {n : Int} {K : AV → aB → Prop} (hm : st mm = some (.map (kZ M))) (hu : P.underlying t = some (.map kt et)) (hk : P.underlying kt = some (.int .i64))
 (h : K .undef (st.aC mm (.map (kZ (n :: M))))) : sE P t st (.map mm) (.int .i64 n) (.bool true) K := by
 unfold sE
 simp only [hu, hm, hk]
 refine ⟨rfl, ?_⟩
 have : mT (kZ M) n (some (.bool true)) = kZ (n :: M) := by
  funext x
  unfold mT kZ
  by_cases e : x = n
  · simp [e]
  · simp [e]
 rw [this]
 exact h
theorem aM8 : kZ [] = fun _ => none := by funext x; simp [kZ]
theorem Q6 (t : Tm) : t.wf = true → ∀ l : List Int, (∀ v, v ∈ t.vars l ↔ v ∈ l ∨ v ∈ t.vl) ∧ (l.Nodup → (t.vars l).Nodup) ∧ ∃ m, t.vars l = l ++ m := by
 induction t using Tm.ind with
 | h k n s ts ih =>
  intro h l
  obtain ⟨hk, hw⟩ := Tm.Q0 h
  have list : ∀ xs : List Tm, (∀ x ∈ xs, x ∈ ts) → ∀ l : List Int, (∀ v, v ∈ b7 xs l ↔ v ∈ l ∨ ∃ x ∈ xs, v ∈ x.vl) ∧ (l.Nodup → (b7 xs l).Nodup) ∧ ∃ m, b7 xs l = l ++ m := by
   intro xs
   induction xs with
   | nil => intro _ l; exact ⟨by simp [b7], fun h => h, [], by simp [b7]⟩
   | cons x xs ihx =>
    intro hs l
    obtain ⟨a1, a2, m1, a3⟩ := ih x (hs x (by simp)) (hw x (hs x (by simp))) l
    obtain ⟨b1, b2, m2, b3⟩ := ihx (fun y hy => hs y (by simp [hy])) (x.vars l)
    simp only [b7]
    refine ⟨fun v => ?_, fun hn => b2 (a2 hn), m1 ++ m2, by rw [b3, a3, nZ]⟩
    rw [b1, a1]
    simp [or_assoc]
  rw [Tm.vars]
  by_cases hk1 : k = 1
  · obtain rfl := hk hk1
    rw [Tm.mI hk1]
    simp only [b7]
    split
    · rename_i hc
      refine ⟨fun v => by simp, fun hn => ?_, [n], rfl⟩
      rw [tV]
      refine ⟨hn, by simp, fun x hx y hy e => ?_⟩
      simp only [cY, dP, d4] at hy
      subst hy e
      exact hc.2 hx
    · rename_i hc
      refine ⟨fun v => ?_, fun hn => hn, [], by simp⟩
      have hm : n ∈ l := C9 fun h => hc ⟨hk1, h⟩
      simp only [cY, dP, d4]
      exact ⟨.inl, fun h => h.elim id fun e => e ▸ hm⟩
  · rw [aE (by simp [hk1])]
    obtain ⟨c1, c2, c3⟩ := list ts (fun _ h => h) l
    exact ⟨fun v => by rw [c1, Tm.kJ hk1], c2, c3⟩
theorem Tm.aO7 {v : Int} : ∀ (t : Tm) (l : List Int), t.cv = true → (v ∈ t.vars l ↔ v ∈ l ∨ v ∈ t.vl) := by
 intro t
 induction t using Tm.ind with
 | h k n s ts ih =>
  intro l hcv
  obtain ⟨h1, h2⟩ := Tm.nW.1 hcv
  have key : ∀ (ts : List Tm) (l : List Int), (∀ t ∈ ts, ∀ l, v ∈ t.vars l ↔ v ∈ l ∨ v ∈ t.vl) → (v ∈ b7 ts l ↔ v ∈ l ∨ ∃ t ∈ ts, v ∈ t.vl) := by
   intro ts
   induction ts with
   | nil => intro l _; simp [b7]
   | cons t ts iht =>
    intro l h
    simp only [b7]
    rw [iht _ (fun x hx => h x (by simp [hx])), h t (by simp)]
    simp [or_assoc]
  simp only [Tm.vars]
  rw [key ts _ (fun t ht l => ih t ht l (h2 t ht))]
  by_cases hk : k = 1
  · obtain ⟨rfl, rfl⟩ := h1 hk
    rw [Tm.mI hk]
    by_cases hn : n ∈ l
    · simp [hk, hn]; exact fun e => e ▸ hn
    · simp [hk, hn]
  · rw [Tm.kJ hk]; simp [hk]
theorem wE {v : Int} : ∀ (ts : List Tm) (l : List Int), (∀ t ∈ ts, t.cv = true) → (v ∈ b7 ts l ↔ v ∈ l ∨ ∃ t ∈ ts, v ∈ t.vl)
 | [], l, _ => by simp [b7]
 | t :: ts, l, h => by
  simp only [b7]
  rw [wE ts _ (fun x hx => h x (by simp [hx])), Tm.aO7 t l (h t (by simp))]
  simp [or_assoc]
theorem aU5 {σ : Sub} {R : Int → Tm} {rk : Int → Nat} {B : Nat} (G : Good σ R rk B) {n : Int} {W : List Int} (hW : ∀ w ∈ W, w ≠ n ∧ ∀ u, σ w = some u → ∀ v ∈ u.vl, v ∈ W) : ∀ w ∈ W, n ∉ (R w).vl := by
 refine fun w => G.ind (p := fun w => w ∈ W → n ∉ (R w).vl) (fun w h hw hm => ?_) (fun w u h ih hw hm => ?_) w
 · rw [G.free h, wG] at hm
   simp only [cY, dP, d4] at hm
   exact (hW w hw).1 hm.symm
 · rw [G.bound h] at hm
   obtain ⟨v, hv, hnv⟩ := (xF u).1 hm
   exact ih v hv ((hW w hw).2 u h v hv) hnv
theorem aQD {w : Nat} {l : List AV} {i : Nat} {e : AV} (hw : ∀ e ∈ l, e.width = w) (h : l[i]? = some e) :
 ∃ A B, l.flatMap AV.cells = A ++ e.cells ++ B ∧ A.length = i * w ∧ ∀ e', (l.set i e').flatMap AV.cells = A ++ e'.cells ++ B := by
 obtain ⟨hi, he⟩ := gS.1 h
 refine ⟨(l.take i).flatMap AV.cells, (l.drop (i + 1)).flatMap AV.cells, ?_, ?_, fun e' => ?_⟩
 · have : l = l.take i ++ e :: l.drop (i + 1) := by rw [← he, ← qY hi, sO]
   conv => lhs; rw [this]
   simp
 · rw [oF (fun e he => hw e (lY he)), d7, lE (by omega)]
 · rw [List.set_eq_take_append_cons_drop, aG hi]
   simp
def cellOf : Option Tm → AV
 | some u => u.av
 | none => zt
theorem HB (o : Option Tm) : (cellOf o).width = 4 := by cases o <;> first | rfl | exact aH _
theorem aP2 (o : Option Tm) : (cellOf o).cells.length = 4 := by rw [vE, HB]
theorem L0 : ∀ t : Tm, t.cv = true → t.aJ vr = t := by
 intro t
 induction t using Tm.ind with
 | h k n s ts ih =>
  intro h
  obtain ⟨h1, h2⟩ := Tm.nW.1 h
  by_cases hk : k = 1
  · obtain ⟨rfl, rfl⟩ := h1 hk
    rw [Tm.mM vr hk, hk]; try rfl
  · rw [Tm.lB vr hk]
    congr 1
    have : ∀ l : List Tm, (∀ x ∈ l, x ∈ ts) → l.map (Tm.aJ vr) = l := by
     intro l
     induction l with
     | nil => intro _; rfl
     | cons x l ihl => intro hl; rw [bA, ih x (hl x (by simp)) (h2 x (hl x (by simp))), ihl fun y hy => hl y (by simp [hy])]
    exact this ts fun _ h => h
def oS (l : List Tm) : List Tm := l.map fun t => t.aJ fun v => vr (eN v (b7 l []) 0)
theorem aWB {D : Int → Prop} {h : Int → Int} (inj : ∀ v w, D v → D w → h v = h w → v = w) {f : Int → Tm} (hf : ∀ v, D v → f v = vr (h v)) :
 ∀ (t : Tm), t.wf = true → (∀ v ∈ t.vl, D v) → ∀ l : List Int, (∀ v ∈ l, D v) → (t.aJ f).vars (l.map h) = (t.vars l).map h ∧ ∀ v ∈ t.vars l, D v := by
 intro t
 induction t using Tm.ind with
 | h k n s ts ih =>
  intro hw hD l hl
  obtain ⟨hk1, hws⟩ := Tm.Q0 hw
  by_cases hk : k = 1
  · obtain rfl := hk1 hk
    have hDn : D n := hD n (by rw [Tm.mI hk]; simp)
    have gM : h n ∈ l.map h ↔ n ∈ l := by
     rw [cU]
     exact ⟨fun ⟨m, hm, e⟩ => by rw [← inj m n (hl m hm) hDn e]; exact hm, fun hm => ⟨n, hm, rfl⟩⟩
    rw [Tm.mM f hk, hf n hDn, vr, Tm.vars, Tm.vars]
    simp only [b7, hk, sP, gM]
    split
    · exact ⟨by simp, fun v hv => by
       rcases fS.1 hv with hv | hv
       · exact hl v hv
       · simp only [cY, dP, d4] at hv; rw [hv]; exact hDn⟩
    · exact ⟨rfl, hl⟩
  · rw [Tm.lB f hk, Tm.vars, Tm.vars, aE (fun h => hk h.1), aE (fun h => hk h.1)]
    have : ∀ xs : List Tm, (∀ x ∈ xs, x ∈ ts) → ∀ l : List Int, (∀ v ∈ l, D v) → b7 (xs.map (Tm.aJ f)) (l.map h) = (b7 xs l).map h ∧ ∀ v ∈ b7 xs l, D v := by
     intro xs
     induction xs with
     | nil => intro _ l hl; exact ⟨rfl, hl⟩
     | cons x xs ihx =>
      intro hs l hl
      have hx := hs x (by simp)
      obtain ⟨e1, e2⟩ := ih x hx (hws x hx) (fun v hv => hD v ((Tm.kJ hk).2 ⟨x, hx, hv⟩)) l hl
      simp only [bA, b7]
      rw [e1]
      exact ihx (fun y hy => hs y (by simp [hy])) _ e2
    exact this ts (fun _ h => h) l hl
theorem aBL {D : Int → Prop} {h : Int → Int} (inj : ∀ v w, D v → D w → h v = h w → v = w) (v : Int) (hv : D v) : ∀ (l : List Int) (i : Int), (∀ w ∈ l, D w) → eN (h v) (l.map h) i = eN v l i
 | [], i, _ => rfl
 | x :: l, i, hl => by
  simp only [bA, eN]
  by_cases e : v = x
  · rw [aG e, aG (by rw [e])]
  · rw [aE e, aE (fun e2 => e (inj v x hv (hl x (by simp)) e2))]
    exact aBL inj v hv l (i + 1) fun w hw => hl w (by simp [hw])
def pH : List ByteArray := [⟨#[43]⟩, ⟨#[45]⟩, ⟨#[42]⟩, ⟨#[47, 47]⟩, ⟨#[109, 111, 100]⟩]
def qR : List ByteArray := [⟨#[60]⟩, ⟨#[62]⟩, ⟨#[61, 60]⟩, ⟨#[62, 61]⟩, ⟨#[61, 58, 61]⟩]
def fO (l : List ByteArray) (s : ByteArray) : Bool := l.any fun x => decide (s = x)
def iT (n : Int) : Int × Int := if -999 ≤ n ∧ n ≤ 999 then (n, 0) else (0, 5)
def oZ (a b : Int) : Int := if a.tmod b ≠ 0 ∧ decide (a.tmod b < 0) ≠ decide (b < 0) then a.tmod b + b else a.tmod b
def qQ (s : ByteArray) (a b : Int) : Int × Int :=
 if s = ⟨#[43]⟩ then iT (a + b) else if s = ⟨#[45]⟩ then iT (a - b) else if s = ⟨#[42]⟩ then iT (a * b) else if b = 0 then (0, 4) else if s = ⟨#[109, 111, 100]⟩ then (oZ a b, 0) else (a.tdiv b, 0)
def both (f : Int → Int → Int × Int) (x y : Int × Int) : Int × Int := if x.2 ≠ 0 then (0, x.2) else if y.2 ≠ 0 then (0, y.2) else f x.1 y.1
def two (f : Int → Int → Int × Int) : List (Int × Int) → Int × Int
 | [x, y] => both f x y
 | _ => (0, 3)
mutual
def Tm.ev : Tm → Int × Int
 | .mk k n s ts => if k = 2 then (n, 0) else if k = 1 then (0, 2) else if fO pH s = true then two (qQ s) (IW ts) else (0, 3)
def IW : List Tm → List (Int × Int)
 | [] => []
 | t :: ts => t.ev :: IW ts
end
theorem aFO : ∀ ts : List Tm, IW ts = ts.map Tm.ev
 | [] => rfl
 | t :: ts => by simp only [IW, bA, aFO ts]
theorem Tm.vZ (k n : Int) (s : ByteArray) (ts : List Tm) : (Tm.mk k n s ts).ev = if k = 2 then (n, 0) else if k = 1 then (0, 2) else if fO pH s = true then two (qQ s) (ts.map Tm.ev) else (0, 3) := by simp only [Tm.ev, aFO]
theorem JO (a b : Int) (hb : b ≠ 0) : (0 < b → -b < a.tmod b ∧ a.tmod b < b) ∧ (b < 0 → b < a.tmod b ∧ a.tmod b < -b) := by
 have h1 := RF (-a) (b := b)
 have h2 := RF a (b := b)
 have h3 := RF (-a) (b := -b)
 have h4 := RF a (b := -b)
 rw [Int.tmod_neg] at h3 h4
 rw [Int.neg_tmod] at h1 h3
 constructor
 · intro h; exact ⟨by have := h1 h; omega, h2 h⟩
 · intro h; exact ⟨by have := h3 (by omega); omega, h4 (by omega)⟩
theorem tdiv_le (a b : Int) (ha : -999 ≤ a ∧ a ≤ 999) : -999 ≤ a.tdiv b ∧ a.tdiv b ≤ 999 := by
 have : (a.tdiv b).natAbs ≤ a.natAbs := by rw [Int.natAbs_tdiv]; exact Nat.div_le_self _ _
 omega
theorem P0 (n : Int) : -999 ≤ (iT n).1 ∧ (iT n).1 ≤ 999 := by unfold iT; split <;> simp_all
theorem Y3 (a b : Int) (ha : -999 ≤ a ∧ a ≤ 999) (hb : -999 ≤ b ∧ b ≤ 999) (h0 : b ≠ 0) : -999 ≤ oZ a b ∧ oZ a b ≤ 999 := by
 have h1 := JO a b h0
 unfold oZ
 split
 · rename_i h
   have h2 := h.2
   by_cases hb' : b < 0
   · have : ¬ a.tmod b < 0 := by intro hc; simp [hb', hc] at h2
     have := h1.2 hb'
     omega
   · have : a.tmod b < 0 := by
      apply C9; intro hc; simp [hb', hc] at h2
     have := h1.1 (by omega)
     omega
 · rcases Int.lt_or_gt_of_ne h0 with h | h
   · have := h1.2 h; omega
   · have := h1.1 h; omega
theorem TM (m b : Int) (h1 : 0 ≤ m) (h2 : m < b) : (m + b).tmod b = m := by
 obtain ⟨x, rfl⟩ : ∃ x : Nat, m = x := ⟨m.toNat, by omega⟩
 obtain ⟨y, rfl⟩ : ∃ y : Nat, b = y := ⟨b.toNat, by omega⟩
 rw [show (x : Int) + (y : Int) = ((x + y : Nat) : Int) by omega, ← Int.ofNat_tmod, Nat.add_mod_right, Nat.mod_eq_of_lt (by omega)]
theorem aT8 (a b : Int) (h0 : b ≠ 0) : (a.tmod b + b).tmod b = oZ a b := by
 have h1 := JO a b h0
 have hs : ∀ x : Int, 0 ≤ x → x < b → x.tmod b = x := fun x h2 h3 => Int.tmod_eq_of_lt h2 h3
 have hn : ∀ x : Int, x ≤ 0 → b < x → x.tmod b = x := fun x h2 h3 => by
  have := Int.tmod_eq_of_lt (a := -x) (b := -b) (by omega) (by omega)
  rw [Int.tmod_neg, Int.neg_tmod] at this
  omega
 unfold oZ
 generalize a.tmod b = m at *
 by_cases hb : b < 0
 · have h2 := h1.2 hb
   by_cases hm : m < 0
   · rw [aE (by simp [hb, hm])]
     rw [show m + b = b + m by omega]
     have e : (b + m).tmod b = ((-b) + (-m)).tmod (-b) * (-1) := by
      rw [show (-b) + (-m) = -(b + m) by omega, Int.neg_tmod, Int.tmod_neg]; omega
     rw [e, Int.add_comm, TM (-m) (-b) (by omega) (by omega)]
     omega
   · by_cases hm0 : m = 0
     · subst hm0; rw [aE (by simp), Int.zero_add, Int.tmod_self]
     · rw [aG ⟨hm0, by simp [hb, hm]⟩]
       exact hn _ (by omega) (by omega)
 · have h2 := h1.1 (by omega)
   by_cases hm : m < 0
   · rw [aG ⟨by omega, by simp [hb, hm]⟩]
     exact hs _ (by omega) (by omega)
   · rw [aE (by simp [hb, hm])]
     rw [TM m b (by omega) (by omega)]
def cE (N : Int) (t : Tm) : Prop := (t.aJ fun _ => vr 0).jN = true ∧ t.cv = true ∧ ∀ v ∈ t.vl, 0 ≤ v ∧ v < N
theorem cE.mono {N M : Int} {t : Tm} (h : cE N t) (hm : N ≤ M) : cE M t := ⟨h.1, h.2.1, fun v hv => ⟨(h.2.2 v hv).1, by have := (h.2.2 v hv).2; omega⟩⟩
theorem cE.own {N k n : Int} {s : ByteArray} {ts : List Tm} (h : cE N (.mk k n s ts)) (hk : k ≠ 1) : eE k n s ts.length = true ∧ ∀ x ∈ ts, cE N x := by
 obtain ⟨h1, h2, h3⟩ := h
 rw [Tm.lB _ hk] at h1
 obtain ⟨h4, h5⟩ := Tm.H7 h1
 rw [aF] at h4
 exact ⟨h4, fun x hx => ⟨h5 _ (cU.2 ⟨x, hx, rfl⟩), (Tm.nW.1 h2).2 x hx, fun v hv => h3 v ((Tm.kJ hk).2 ⟨x, hx, hv⟩)⟩⟩
theorem cE.var {N n : Int} {s : ByteArray} {ts : List Tm} (h : cE N (.mk 1 n s ts)) : 0 ≤ n ∧ n < N ∧ s = ⟨#[]⟩ ∧ ts = [] := by
 obtain ⟨_, h2, h3⟩ := h
 obtain ⟨h4, h5⟩ := (Tm.nW.1 h2).1 rfl
 obtain ⟨h6, h7⟩ := h3 n (by rw [Tm.mI rfl]; simp)
 exact ⟨h6, h7, h4, h5⟩
theorem KI (N : Int) : ∀ t : Tm, t.k ≠ 1 → cE N t → ∀ x ∈ t.ts, cE N x := fun t hk h x hx => by
 cases t
 exact (h.own hk).2 x hx
theorem cE.kind {N k n : Int} {s : ByteArray} {ts : List Tm} (h : cE N (.mk k n s ts)) : (k = 1 ∨ k = 2 ∨ k = 3) ∧ ts.length ≤ 4 := by
 by_cases hk : k = 1
 · subst hk
   rw [h.var.2.2.2]
   simp
 · have := aO4 (h.own hk).1
   omega
theorem aSV {n : Int} {s : ByteArray} {len : Int} (h : eE 2 n s len = true) : -999 ≤ n ∧ n ≤ 999 := by
 simp [eE] at h
 omega
theorem cE.all {N k n : Int} {s : ByteArray} {ts : List Tm} (h : cE N (.mk k n s ts)) : (k = 2 → -999 ≤ n ∧ n ≤ 999) ∧ ∀ x ∈ ts, cE N x := by
 by_cases hk : k = 1
 · subst hk
   rw [h.var.2.2.2]
   simp
 · obtain ⟨h1, h2⟩ := h.own hk
   refine ⟨fun h2 => ?_, h2⟩
   subst h2
   exact aSV h1
theorem cE.small {N : Int} : ∀ {t : Tm}, cE N t → t.small = true := by
 intro t
 induction t using Tm.ind with
 | h k n s ts ih =>
  intro h
  have h4 := h.kind.2
  simp only [Tm.small, EK, cM, bJ, eW]
  refine ⟨by omega, fun x hx => ?_⟩
  by_cases hk : k = 1
  · subst hk; rw [h.var.2.2.2] at hx; cases hx
  · exact ih x hx ((h.own hk).2 x hx)
theorem cE.aJ {N M : Int} {f : Int → Tm} {t : Tm} (h : cE N t) (hf : ∀ v ∈ t.vl, cE M (f v)) : cE M (t.aJ f) := by
 induction t using Tm.ind with
 | h k n s ts ih =>
  by_cases hk : k = 1
  · rw [Tm.mM f hk]; exact hf n (by rw [Tm.mI hk]; simp)
  · obtain ⟨h1, h2⟩ := h.own hk
    have key : ∀ x ∈ ts, cE M (x.aJ f) := fun x hx => ih x hx (h2 x hx) fun v hv => hf v ((Tm.kJ hk).2 ⟨x, hx, hv⟩)
    rw [Tm.lB f hk]
    refine ⟨?_, Tm.nW.2 ⟨fun h => absurd h hk, fun y hy => ?_⟩, fun v hv => ?_⟩
    · rw [Tm.lB _ hk, Tm.yL, aF, aF, h1, eT, eW]
      intro y hy
      simp only [xT, cU, GY] at hy
      obtain ⟨x, hx, rfl⟩ := hy
      exact (key x hx).1
    · obtain ⟨x, hx, rfl⟩ := cU.1 hy
      exact (key x hx).2.1
    · obtain ⟨y, hy, hv⟩ := (Tm.kJ hk).1 hv
      obtain ⟨x, hx, rfl⟩ := cU.1 hy
      exact (key x hx).2.2 v hv
theorem FU {N n : Int} (h0 : 0 ≤ n) (h1 : n < N) : cE N (vr n) := by
 refine ⟨by rw [t9]; exact XW (DZ.2 (by omega)), Tm.nW.2 ⟨fun _ => ⟨rfl, rfl⟩, by simp⟩, fun v hv => ?_⟩
 rw [wG] at hv
 simp only [cY, dP, d4] at hv
 omega
theorem aJ2 {t : Tm} : t.jN = true ↔ cE 26 t := by
 constructor
 · intro h
   refine ⟨aUR t h fun v _ => XW (DZ.2 (by omega)), Tm.aSB t h, fun v hv => ?_⟩
   have := DZ.1 (Tm.aPK t h v hv)
   omega
 · induction t using Tm.ind with
   | h k n s ts ih =>
    intro h
    rw [Tm.yL]
    by_cases hk : k = 1
    · subst hk
      obtain ⟨h0, h1, rfl, rfl⟩ := h.var
      have h1' : n ≤ 25 := by omega
      simp [eE, h0, h1']
    · obtain ⟨h1, h2⟩ := h.own hk
      rw [h1, eT, eW]
      exact fun x hx => ih x hx (h2 x hx)
theorem Tm.EJ {t : Tm} (h : t.valid = true) : cE 26 t := aJ2.1 (Tm.aZY h)
theorem Good.k8 {σ : Sub} {R : Int → Tm} {rk : Int → Nat} {B : Nat} (G : Good σ R rk B) {N : Int} (ho : cP (cE N) σ) : ∀ n, 0 ≤ n → n < N → cE N (R n) := by
 refine fun n => G.ind (p := fun n => 0 ≤ n → n < N → cE N (R n)) (fun n h h0 h1 => ?_) (fun n u h ih h0 h1 => ?_) n
 · rw [G.free h]; exact FU h0 h1
 · rw [G.bound h]
   exact (ho n u h).aJ fun v hv => ih v hv ((ho n u h).2.2 v hv).1 ((ho n u h).2.2 v hv).2
theorem Good.NL {σ : Sub} {R : Int → Tm} {rk : Int → Nat} {B : Nat} (G : Good σ R rk B) {N : Int} (ho : cP (cE N) σ) {t : Tm} (h : cE N t) : cE N (t.aJ R) :=
 h.aJ fun v hv => G.k8 ho v (h.2.2 v hv).1 (h.2.2 v hv).2
def bD (N : Int) (t : Tm) : Prop := cE N t ∧ t.nodes ≤ 120
theorem qL (N : Int) : ∀ t : Tm, t.k ≠ 1 → bD N t → ∀ x ∈ t.ts, bD N x := fun t hk h x hx => by
 refine ⟨KI N t hk h.1 x hx, ?_⟩
 have h2 := h.2
 cases t
 rw [Tm.gP] at h2
 have := DQ (f := Tm.nodes) hx
 simp only [Tm.ts] at this
 omega
theorem bD.mono {N M : Int} {t : Tm} (h : bD N t) (hm : N ≤ M) : bD M t := ⟨h.1.mono hm, h.2⟩
theorem cP.k8 {N : Int} {σ : Sub} (h : cP (bD N) σ) : cP (cE N) σ := fun n u e => (h n u e).1
theorem cP.imp {p q : Tm → Prop} {σ : Sub} (h : cP p σ) (hpq : ∀ t, p t → q t) : cP q σ := fun n u e => hpq u (h n u e)
open Classical in
noncomputable def iQ (σ : Sub) (a b : Tm) : Bool × Sub × List Int := if h : ∃ x g, dD g σ a b = some x then h.choose else (false, σ, [])
theorem aEU {g : Nat} {σ : Sub} {a b : Tm} {x : Bool × Sub × List Int} (h : dD g σ a b = some x) : iQ σ a b = x := by
 unfold iQ
 have h' : ∃ x g, dD g σ a b = some x := ⟨x, g, h⟩
 rw [dif_pos h']
 obtain ⟨g', h''⟩ := h'.choose_spec
 exact aP1 h'' h
def VN (N : Nat) : List Int := (List.range N).map fun i : Nat => (i : Int)
theorem uO {N : Nat} {n : Int} : n ∈ VN N ↔ 0 ≤ n ∧ n < N := by
 simp only [VN, cU, xR]
 constructor
 · rintro ⟨i, h, rfl⟩; omega
 · intro h; exact ⟨n.toNat, by omega, by omega⟩
theorem AK {N : Nat} {tr : List Int} (h : tr.Nodup) (hV : ∀ m ∈ tr, 0 ≤ m ∧ m < N) : tr.length ≤ N := by
 have := aCD (V := VN N) h fun x hx => uO.2 (hV x hx)
 simpa [VN] using this
structure zX (N : Int) (σ : Sub) (a b : Tm) (r : Bool) (σ' : Sub) (tr : List Int) : Prop where
 run : ∃ g, dD g σ a b = some (r, σ', tr)
 eq : iQ σ a b = (r, σ', tr)
 l9 : nL σ [a] [b] r σ' tr
 ok : cP (bD N) σ'
 fO : ∀ m ∈ tr, 0 ≤ m ∧ m < N
theorem rD {N : Nat} {σ : Sub} {a b : Tm} (hg : cL σ) (ho : cP (bD N) σ) (ha : bD N a) (hb : bD N b) : ∃ r σ' tr, zX N σ a b r σ' tr := by
 have hin : ∀ {t : Tm}, bD N t → iR (VN N) t := fun h v hv => uO.2 (h.1.2.2 v hv)
 have hr : lV (VN N) σ := fun n u e => hin (ho n u e)
 obtain ⟨g, ⟨r, σ', tr⟩, h⟩ := aSF (VN N) _ _ σ a b hg hr (hin ha) (hin hb) (c7 _) (c7 _)
 obtain ⟨h1, h2⟩ := (aDZ g).1 σ a b r σ' tr (VN N) hg h hr (hin ha) (hin hb)
 exact ⟨r, σ', tr, ⟨g, h⟩, aEU h, uT hg h, (HU (qL N) g).1 σ a b r σ' tr hg h ho ha hb, fun m hm => uO.1 (h2 m hm)⟩
theorem zX.out {N : Int} {σ : Sub} {a b : Tm} {r : Bool} {σ' : Sub} {tr : List Int} (h : zX N σ a b r σ' tr) (n : Int) : (if n ∈ tr then none else σ' n) = σ n := by
 split
 · rename_i hn; exact ((h.l9.new n hn).1).symm
 · rename_i hn; exact h.l9.a8 n hn
def Sub.out (σ : Sub) (l : List Int) : Sub := fun n => if n ∈ l then Option.none else σ n
theorem Sub.aU1 (σ : Sub) (l m : List Int) : (σ.out l).out m = σ.out (l ++ m) := by
 funext n
 unfold Sub.out
 by_cases h1 : n ∈ m
 · rw [aG h1, aG (by simp [h1])]
 · rw [aE h1]
   by_cases h2 : n ∈ l
   · rw [aG h2, aG (by simp [h2])]
   · rw [aE h2, aE (by simp [h1, h2])]
theorem Sub.aNO (σ : Sub) {l m : List Int} (h : ∀ n, n ∈ l ↔ n ∈ m) : σ.out l = σ.out m := by
 funext n
 unfold Sub.out
 simp only [h n]
def bV (ρ : Int → Int) (t : Tm) : Tm := t.aJ fun v => vr (ρ v)
theorem aQB (ρ : Int → Int) (n : Int) : bV ρ (vr n) = vr (ρ n) := t9 _ n
theorem uZ (ρ : Int → Int) {k n : Int} {s : ByteArray} {ts : List Tm} (h : k ≠ 1) : bV ρ (.mk k n s ts) = .mk k n s (ts.map (bV ρ)) := Tm.lB _ h
theorem w8 (ρ : Int → Int) {t : Tm} (h : t.k = 1) : bV ρ t = vr (ρ t.n) := Tm.C6 _ h
theorem A7 (ρ : Int → Int) {t : Tm} (h : t.k ≠ 1) : bV ρ t = .mk t.k t.n t.s (t.ts.map (bV ρ)) := Tm.qJ _ h
theorem v8 (ρ : Int → Int) (t : Tm) : (bV ρ t).k = t.k := by
 by_cases h : t.k = 1
 · rw [w8 ρ h, h]; try rfl
 · rw [A7 ρ h]; try rfl
theorem HG (ρ : Int → Int) {t : Tm} (hc : t.cv = true) : (bV ρ t).nodes = t.nodes := by
 induction t using Tm.ind with
 | h k n s ts ih =>
  obtain ⟨h1, h2⟩ := Tm.nW.1 hc
  by_cases hk : k = 1
  · obtain ⟨_, rfl⟩ := h1 hk
    rw [w8 ρ (t := .mk k n s []) hk, vr, Tm.gP, Tm.gP]
  · rw [uZ ρ hk, Tm.gP, Tm.gP]
    congr 1
    have : ∀ l : List Tm, (∀ x ∈ l, x ∈ ts) → bG Tm.nodes (l.map (bV ρ)) = bG Tm.nodes l := by
     intro l
     induction l with
     | nil => intro _; rfl
     | cons x l ihl => intro h; simp only [bA, bG]; rw [ih x (h x (by simp)) (h2 x (h x (by simp))), ihl fun y hy => h y (by simp [hy])]
    exact this ts fun _ h => h
theorem MP (ρ : Int → Int) {t : Tm} (hc : t.cv = true) : ∀ d, (bV ρ t).flat d = t.flat d := by
 induction t using Tm.ind with
 | h k n s ts ih =>
  intro d
  obtain ⟨h1, h2⟩ := Tm.nW.1 hc
  cases d with
  | zero => rw [Tm.DH, Tm.DH]
  | succ d =>
   by_cases hk : k = 1
   · obtain ⟨_, rfl⟩ := h1 hk
     rw [w8 ρ (t := .mk k n s []) hk, vr, Tm.uK, Tm.uK]
   · rw [uZ ρ hk, Tm.uK, Tm.uK, List.all_map]
     rw [vO, eW, eW]
     constructor
     · intro h x hx; rw [← ih x hx (h2 x hx) d]; exact h x hx
     · intro h x hx; simp only [GY]; rw [ih x hx (h2 x hx) d]; exact h x hx
theorem aWP {ρ : Int → Int} {t : Tm} {w : Int} : w ∈ (bV ρ t).vl ↔ ∃ v ∈ t.vl, w = ρ v := by
 unfold bV
 rw [xF]
 simp only [wG, cY, dP, d4]
theorem LI {ρ ρ' : Int → Int} {t : Tm} (h : ∀ v ∈ t.vl, ρ v = ρ' v) : bV ρ t = bV ρ' t := pV t fun v hv => by rw [h v hv]
theorem FN (ρ : Int → Int) (f : Int → Tm) (t : Tm) : (bV ρ t).aJ f = t.aJ fun v => f (ρ v) := by
 unfold bV
 rw [xC]
 exact pV t fun v _ => t9 f (ρ v)
theorem V4 (ρ : Int → Int) (f : Int → Tm) (t : Tm) : bV ρ (t.aJ f) = t.aJ fun v => bV ρ (f v) := by
 unfold bV
 rw [xC]
theorem cE.bV {N M : Int} {ρ : Int → Int} {t : Tm} (h : cE N t) (hr : ∀ v ∈ t.vl, 0 ≤ ρ v ∧ ρ v < M) : cE M (AW.bV ρ t) := h.aJ fun v hv => FU (hr v hv).1 (hr v hv).2
theorem bD.bV {N M : Int} {ρ : Int → Int} {t : Tm} (h : bD N t) (hr : ∀ v ∈ t.vl, 0 ≤ ρ v ∧ ρ v < M) : bD M (AW.bV ρ t) := ⟨h.1.bV hr, by rw [HG ρ h.1.2.1]; exact h.2⟩
structure fC (ρ : Int → Int) (N : Int) (σ τ : Sub) : Prop where
 inj : ∀ v w, 0 ≤ v → v < N → 0 ≤ w → w < N → ρ v = ρ w → v = w
 map : ∀ v, 0 ≤ v → v < N → τ (ρ v) = (σ v).map (bV ρ)
section
variable {ρ : Int → Int} {N : Int} {σ τ : Sub}
theorem fC.wk (S : fC ρ N σ τ) (ho : cP (cE N) σ) {f : Nat} {t u : Tm} (h : fQ σ f t u) : cE N t → fQ τ f (bV ρ t) (bV ρ u) := by
 induction h with
 | @stop t h =>
  intro ht
  refine .stop fun hk => ?_
  rw [v8] at hk
  have hr := ht.2.2 t.n (by rw [Tm.AG hk]; simp)
  rw [w8 ρ hk]
  show τ (ρ t.n) = none
  rw [S.map _ hr.1 hr.2, h hk]; try rfl
 | @go f t u v h1 h2 _ ih =>
  intro ht
  have hr := ht.2.2 t.n (by rw [Tm.AG h1]; simp)
  refine .go (u := bV ρ u) (by rw [v8]; exact h1) ?_ (ih (ho _ _ h2))
  rw [w8 ρ h1]
  show τ (ρ t.n) = _
  rw [S.map _ hr.1 hr.2, h2]; try rfl
theorem fC.rs (S : fC ρ N σ τ) (hg : cL σ) (hg' : cL τ) (ho : cP (cE N) σ) : ∀ v, 0 ≤ v → v < N → rs τ (ρ v) = bV ρ (rs σ v) := by
 obtain ⟨rk, B, G⟩ := hg.rs
 obtain ⟨rk', B', G'⟩ := hg'.rs
 refine fun v => G.ind (p := fun v => 0 ≤ v → v < N → AW.rs τ (ρ v) = bV ρ (AW.rs σ v)) (fun v h h0 h1 => ?_) (fun v u h ih h0 h1 => ?_) v
 · rw [G.free h, aQB, G'.free (by rw [S.map v h0 h1, h]; try rfl)]
 · rw [G.bound h, V4, G'.bound (u := bV ρ u) (by rw [S.map v h0 h1, h]; try rfl), FN]
   refine pV u fun w hw => ?_
   have := (ho v u h).2.2 w hw
   exact ih w hw this.1 this.2
theorem fC.rsT (S : fC ρ N σ τ) (hg : cL σ) (hg' : cL τ) (ho : cP (cE N) σ) {t : Tm} (ht : cE N t) : (bV ρ t).aJ (AW.rs τ) = bV ρ (t.aJ (AW.rs σ)) := by
 rw [FN, V4]
 exact pV t fun v hv => S.rs hg hg' ho v (ht.2.2 v hv).1 (ht.2.2 v hv).2
theorem fC.mem (S : fC ρ N σ τ) {t : Tm} (ht : cE N t) {n : Int} (h0 : 0 ≤ n) (h1 : n < N) : ρ n ∈ (bV ρ t).vl ↔ n ∈ t.vl := by
 rw [aWP]
 constructor
 · rintro ⟨v, hv, e⟩
   rw [S.inj n v h0 h1 (ht.2.2 v hv).1 (ht.2.2 v hv).2 e]; exact hv
 · exact fun h => ⟨n, h, rfl⟩
theorem fC.set (S : fC ρ N σ τ) {n : Int} (h0 : 0 ≤ n) (h1 : n < N) (t : Tm) : fC ρ N (σ.set n t) (τ.set (ρ n) (bV ρ t)) := by
 refine ⟨S.inj, fun v hv0 hv1 => ?_⟩
 unfold Sub.set
 by_cases h : v = n
 · subst h; simp
 · rw [aE (fun e => h (S.inj v n hv0 hv1 h0 h1 e)), aE h, S.map v hv0 hv1]
theorem fC.jU (S : fC ρ N σ τ) (hg : cL σ) (hg' : cL τ) (ho : cP (cE N) σ) {n : Int} (h0 : 0 ≤ n) (h1 : n < N) {t : Tm} (ht : cE N t) {r : Bool} {σ' : Sub} {tr : List Int} (h : jU σ n t = (r, σ', tr)) :
 ∃ τ', AW.jU τ (ρ n) (bV ρ t) = (r, τ', tr.map ρ) ∧ fC ρ N σ' τ' := by
 obtain ⟨rk, B, G⟩ := hg.rs
 have e := S.mem (G.NL ho ht) h0 h1
 rw [← S.rsT hg hg' ho ht] at e
 unfold AW.jU at h ⊢
 by_cases hm : n ∈ (t.aJ (AW.rs σ)).vl
 · rw [aG hm] at h
   rw [aG (e.2 hm)]
   cases h
   exact ⟨τ, rfl, S⟩
 · rw [aE hm] at h
   rw [aE (fun h => hm (e.1 h))]
   cases h
   exact ⟨_, rfl, S.set h0 h1 t⟩
theorem RZ {a b : Tm} (ha : a.k ≠ 1) (hb : b.k ≠ 1) : tR (bV ρ a) (bV ρ b) = tR a b := by
 obtain ⟨k, n, s, ts⟩ := a
 obtain ⟨k', n', s', ts'⟩ := b
 simp only [Tm.k] at ha hb
 rw [uZ ρ ha, uZ ρ hb, vO, rK, rK]
 simp only [Tm.k, Tm.n, Tm.s, Tm.ts, aF]
theorem fC.WL (S : fC ρ N σ τ) (hg : cL σ) (ho : cP (cE N) σ) {t : Tm} (ht : cE N t) : AW.wk τ (bV ρ t) = bV ρ (AW.wk σ t) := by
 obtain ⟨rk, B, G⟩ := hg.rs
 obtain ⟨f, h⟩ := G.wk t
 exact (S.wk ho h ht).wk
theorem aUP (ρ : Int → Int) (N : Int) : ∀ g : Nat, (∀ (σ τ : Sub) (a b : Tm) (r : Bool) (σ' : Sub) (tr : List Int), cL σ → cL τ → cP (cE N) σ → cE N a → cE N b → fC ρ N σ τ → dD g σ a b = some (r, σ', tr) → ∃ τ', dD g τ (bV ρ a) (bV ρ b) = some (r, τ', tr.map ρ) ∧ fC ρ N σ' τ') ∧
 (∀ (xs ys : List Tm) (σ τ : Sub) (r : Bool) (σ' : Sub) (tr : List Int), cL σ → cL τ → cP (cE N) σ → (∀ x ∈ xs, cE N x) → (∀ y ∈ ys, cE N y) → fC ρ N σ τ → dU g σ xs ys = some (r, σ', tr) → ∃ τ', dU g τ (xs.map (bV ρ)) (ys.map (bV ρ)) = some (r, τ', tr.map ρ) ∧ fC ρ N σ' τ') := by
 intro g
 induction g with
 | zero =>
  refine ⟨fun σ τ a b r σ' tr _ _ _ _ _ _ h => (by simp only [dD] at h; cases h), ?_⟩
  intro xs ys σ τ r σ' tr _ _ _ _ _ S h
  match xs, ys with
  | [], _ => simp only [dU, Option.some.injEq, Prod.mk.injEq] at h; obtain ⟨rfl, rfl, rfl⟩ := h; exact ⟨τ, by simp only [aW, dU], S⟩
  | x :: xs, [] => simp only [dU, Option.some.injEq, Prod.mk.injEq] at h; obtain ⟨rfl, rfl, rfl⟩ := h; exact ⟨τ, by simp only [bA, aW, dU], S⟩
  | x :: xs, y :: ys => simp only [dU, dD] at h; cases h
 | succ g ih =>
  have one : ∀ (σ τ : Sub) (a b : Tm) (r : Bool) (σ' : Sub) (tr : List Int), cL σ → cL τ → cP (cE N) σ → cE N a → cE N b → fC ρ N σ τ → dD (g + 1) σ a b = some (r, σ', tr) → ∃ τ', dD (g + 1) τ (bV ρ a) (bV ρ b) = some (r, τ', tr.map ρ) ∧ fC ρ N σ' τ' := by
   intro σ τ a b r σ' tr hg hg' ho ha hb S h
   obtain ⟨rk, B, G⟩ := hg.rs
   obtain ⟨fa, wa⟩ := G.wk a
   obtain ⟨fb, wb⟩ := G.wk b
   have oa := wa.all (p := cE N) ho ha
   have ob := wb.all (p := cE N) ho hb
   have ea := S.WL hg ho ha
   have eb := S.WL hg ho hb
   have h := KA h
   generalize AW.wk σ a = a1 at *
   generalize AW.wk σ b = b1 at *
   rw [dD, ea, eb, v8, v8]
   have rng : ∀ {t : Tm}, cE N t → t.k = 1 → 0 ≤ t.n ∧ t.n < N := fun ht hk => ht.2.2 _ (by rw [Tm.AG hk]; simp)
   have nn : ∀ {t : Tm}, t.k = 1 → (bV ρ t).n = ρ t.n := fun hk => by rw [w8 ρ hk]; try rfl
   rcases h with ⟨h1, h2, h3, rfl, rfl, rfl⟩ | ⟨h1, h2, h3⟩ | ⟨h1, h2, h3⟩ | ⟨h1, h2, h3, h4⟩ | ⟨h1, h2, h3, rfl, rfl, rfl⟩
   · exact ⟨τ, by rw [aG ⟨h1, h2, by rw [nn h1, nn h2, h3]⟩]; try rfl, S⟩
   · have ra := rng oa h1
     obtain ⟨τ', e, S'⟩ := S.jU hg hg' ho ra.1 ra.2 ob h3
     refine ⟨τ', ?_, S'⟩
     rw [aE, aG h1, nn h1, e]
     rintro ⟨_, h5, h6⟩
     have rb := rng ob h5
     rw [nn h1, nn h5] at h6
     exact h2 ⟨h5, S.inj _ _ ra.1 ra.2 rb.1 rb.2 h6⟩
   · have rb := rng ob h2
     obtain ⟨τ', e, S'⟩ := S.jU hg hg' ho rb.1 rb.2 oa h3
     refine ⟨τ', ?_, S'⟩
     rw [aE (fun h => h1 h.1), aE h1, aG h2, nn h2, e]
   · obtain ⟨τ', e, S'⟩ := ih.2 a1.ts b1.ts σ τ r σ' tr hg hg' ho (KI N a1 h1 oa) (KI N b1 h2 ob) S h4
     refine ⟨τ', ?_, S'⟩
     rw [aE (fun h => h1 h.1), aE h1, aE h2, aG (by rw [RZ h1 h2]; exact h3), A7 ρ h1, A7 ρ h2]
     exact e
   · refine ⟨τ, ?_, S⟩
     rw [aE (fun h => h1 h.1), aE h1, aE h2, aE (by rw [RZ h1 h2, h3]; simp)]
     try rfl
  refine ⟨one, ?_⟩
  intro xs
  induction xs with
  | nil =>
   intro ys σ τ r σ' tr _ _ _ _ _ S h
   simp only [dU, Option.some.injEq, Prod.mk.injEq] at h; obtain ⟨rfl, rfl, rfl⟩ := h; exact ⟨τ, by simp only [aW, dU], S⟩
  | cons x xs ihx =>
   intro ys σ τ r σ' tr hg hg' ho hx hy S h
   cases ys with
   | nil => simp only [dU, Option.some.injEq, Prod.mk.injEq] at h; obtain ⟨rfl, rfl, rfl⟩ := h; exact ⟨τ, by simp only [bA, aW, dU], S⟩
   | cons y ys =>
    rw [dU] at h
    simp only [bA]
    rw [dU]
    cases hu : dD (g + 1) σ x y with
    | none => rw [hu] at h; cases h
    | some p =>
     obtain ⟨r1, σ1, tr1⟩ := p
     rw [hu] at h
     obtain ⟨τ1, e1, S1⟩ := one σ τ x y r1 σ1 tr1 hg hg' ho (hx x (by simp)) (hy y (by simp)) S hu
     rw [e1]
     cases r1 with
     | false =>
      simp only [Option.some.injEq, Prod.mk.injEq] at h ⊢
      obtain ⟨rfl, rfl, rfl⟩ := h
      exact ⟨τ1, ⟨rfl, rfl, rfl⟩, S1⟩
     | true =>
      simp only at h ⊢
      cases hu2 : dU (g + 1) σ1 xs ys with
      | none => rw [hu2] at h; cases h
      | some p2 =>
       obtain ⟨r2, σ2, tr2⟩ := p2
       rw [hu2] at h
       simp only [Option.some.injEq, Prod.mk.injEq] at h
       obtain ⟨rfl, rfl, rfl⟩ := h
       have U1 := uT hg hu
       have U1' := uT hg' e1
       have ho1 := (HU (KI N) (g + 1)).1 σ x y true σ1 tr1 hg hu ho (hx x (by simp)) (hy y (by simp))
       obtain ⟨τ2, e2, S2⟩ := ihx ys σ1 τ1 r2 σ2 tr2 U1.gK U1'.gK ho1 (fun z hz => hx z (by simp [hz])) (fun z hz => hy z (by simp [hz])) S1 hu2
       rw [e2]
       exact ⟨τ2, by simp only [vP], S2⟩
theorem fC.iQ (S : fC ρ N σ τ) (hg : cL σ) (hg' : cL τ) (ho : cP (cE N) σ) {a b : Tm} (ha : cE N a) (hb : cE N b) {r : Bool} {σ' : Sub} {tr : List Int} {g : Nat} (h : dD g σ a b = some (r, σ', tr)) :
 ∃ τ', AW.iQ τ (bV ρ a) (bV ρ b) = (r, τ', tr.map ρ) ∧ fC ρ N σ' τ' ∧ cL τ' := by
 obtain ⟨τ', e, S'⟩ := (aUP ρ N g).1 σ τ a b r σ' tr hg hg' ho ha hb S h
 exact ⟨τ', aEU e, S', (uT hg' e).gK⟩
end
end Go.AW
namespace Go.AW
open Go.Proofs.Tryz
def jW (n : Int) : Prop := -999 ≤ n ∧ n ≤ 999
theorem aSR (s : ByteArray) (a b : Int) (ha : jW a) (hb : jW b) : jW (qQ s a b).1 := by
 unfold qQ jW
 split
 · exact P0 _
 split
 · exact P0 _
 split
 · exact P0 _
 split
 · simp
 rename_i h0
 split
 · exact Y3 a b ha hb h0
 · exact tdiv_le a b ha
theorem aSP {f : Int → Int → Int × Int} {x y : Int × Int} (h : jW (f x.1 y.1).1) : jW (both f x y).1 := by
 unfold both jW
 split
 · simp
 split
 · simp
 · exact h
theorem Tm.tQ {N : Int} : ∀ t : Tm, cE N t → jW t.ev.1 := by
 intro t
 induction t using Tm.ind with
 | h k n s ts ih =>
  intro h
  obtain ⟨h1, h2⟩ := h.all
  rw [Tm.vZ]
  split
  · rename_i hk; exact h1 hk
  split
  · simp [jW]
  split
  · match ts, h2, ih with
    | [], _, _ => simp [two, jW]
    | [x], _, _ => simp [two, jW]
    | [x, y], h2, ih => exact aSP (aSR _ _ _ (ih x (by simp) (h2 x (by simp))) (ih y (by simp) (h2 y (by simp))))
    | x :: y :: z :: l, _, _ => simp [two, jW]
  · simp [jW]
theorem OW {ts : List Tm} (h : (ts.length : Int) = 2) : ∃ x y, ts = [x, y] := by
 match ts, h with
 | [x, y], _ => exact ⟨x, y, rfl⟩
 | [], h => simp at h
 | [x], h => simp at h
 | x :: y :: z :: l, h => simp at h; omega
abbrev uS := zi tI_3 (zi zI_3 (zi aX (zi tI_4 (zi zI_4 (zi cD (zi tI_9 (zi zI_9 (zi cH (zi tI_31 (zi zI_31 (zi aN (zi bE (zi bF (zi b9 (zi tI_63 (zi zI_63 (zi bP (zi bQ (zi bT (zi bS (zi bR (zi tI_125 (zi zI_125 (zi iS (zi lR (zi lQ mF))))))))))))))))))))))))))
theorem H0 {N : Int} : ∀ (t : Tm) (st : aB), cE N t → aD prog 189 [t.av] st (fun r st' => r = .tup [.int .i64 t.ev.1, .int .i64 t.ev.2] ∧ st' = st)
 | .mk k n s ts, st, hok => by
  obtain ⟨h1, h2⟩ := hok.all
  have IH := fun (x : Tm) (hx : x ∈ ts) st => H0 x st (h2 x hx)
  rw [Tm.vZ]
  simp only [aV]
  refine wF [1000000] 1 func189 ntmps189 rfl rfl ?_
  intro _
  simp -implicitDefEqProofs only [aA, seval, uS]
  refine aQ (fun hk => ?_) (fun hk => ?_)
  · simp -implicitDefEqProofs only [aA, seval, uS]
    simp only [bJ] at hk
    simp [hk]
  simp only [dH] at hk
  rw [aE hk]
  simp -implicitDefEqProofs only [aA, seval, uS]
  refine aQ (fun hk1 => ?_) (fun hk1 => ?_)
  · simp -implicitDefEqProofs only [aA, seval]
    simp only [bJ] at hk1
    simp [hk1]
  simp only [dH] at hk1
  rw [aE hk1]
  simp -implicitDefEqProofs only [aF, aA, seval, uS]
  have hty : ∀ s0 : aB, ts.length ≠ 2 ∨ fO pH s = false → (if fO pH s = true then two (qQ s) (ts.map Tm.ev) else (0, 3)) = ((0 : Int), (3 : Int)) := fun _ h => by
   split
   · rename_i h3
     rcases h with h | h
     · match ts, h with
       | [], _ => rfl
       | [x], _ => rfl
       | [x, y], h => simp at h
       | x :: y :: z :: l, _ => rfl
     · rw [h] at h3; cases h3
   · rfl
  refine cT (fun h => ?_) (fun h => ?_)
  case refine_2 =>
   simp -implicitDefEqProofs only [h, aA, seval]
   rw [hty st (.inl (by simp at h; omega))]
  simp -implicitDefEqProofs only [h, aA, seval, uS]
  refine (NK pH s _).to ?_
  simp -implicitDefEqProofs only [aA, seval]
  refine aQ (fun h3 => ?_) (fun h3 => ?_)
  · simp -implicitDefEqProofs only [aA, seval]
    rw [hty st (.inr (by simpa [fO] using h3))]
  have hin : fO pH s = true := by simpa [fO] using h3
  rw [aG hin]
  clear hty
  obtain ⟨x, y, rfl⟩ := OW (by simpa using h)
  have dT : dJ prog 31 (.slice [x.av, y.av]) (.int .i64 0) = some (.pptr x.av) := bL (av := Tm.av) (l := [x, y]) (i := 0) aN rfl (aH x)
  have gC : dJ prog 31 (.slice [x.av, y.av]) (.int .i64 1) = some (.pptr y.av) := bL (av := Tm.av) (l := [x, y]) (i := 1) aN rfl (aH y)
  have hx := Tm.tQ x (h2 x (by simp))
  have hy := Tm.tQ y (h2 y (by simp))
  have IHx := fun st => IH x (by simp) st
  have IHy := fun st => IH y (by simp) st
  simp -implicitDefEqProofs only [dT, aT, aH, aA, ↓aU, seval, uS]
  refine (IHx _).to ?_
  simp only [two, both]
  generalize x.ev.1 = a at *
  generalize x.ev.2 = ca at *
  generalize y.ev.1 = b at *
  generalize y.ev.2 = cb at *
  simp -implicitDefEqProofs only [aA, seval]
  refine aQ (fun h4 => ?_) (fun h4 => ?_)
  · simp -implicitDefEqProofs only [aA, seval]
    have h4' : ca ≠ 0 := by simpa using h4
    rw [aG h4']
  have h4' : ca = 0 := by simpa using h4
  subst h4'
  rw [aE (by simp)]
  simp -implicitDefEqProofs only [gC, aT, aH, aA, seval, uS]
  refine (IHy _).to ?_
  simp -implicitDefEqProofs only [aA, seval]
  refine aQ (fun h5 => ?_) (fun h5 => ?_)
  · simp -implicitDefEqProofs only [aA, seval]
    have h5' : cb ≠ 0 := by simpa using h5
    rw [aG h5']
  have h5' : cb = 0 := by simpa using h5
  subst h5'
  rw [aE (by simp)]
  unfold jW at hx hy
  have hmul : -998001 ≤ a * b ∧ a * b ≤ 998001 := by
   have h6 : (a * b).natAbs ≤ 998001 := by
    rw [Int.natAbs_mul]
    have := Nat.mul_le_mul (show a.natAbs ≤ 999 by omega) (show b.natAbs ≤ 999 by omega)
    omega
   omega
  have hw1 := bK (n := a + b)
  have hw2 := bK (n := a - b)
  have hw3 := bK (n := a * b)
  have hrg : ∀ (v : Int) (st' : aB), aD prog 84 [.int .i64 v, .int .i64 (-999), .int .i64 999] st' (fun r s' => r = .bool (decide (iT v = (v, 0))) ∧ s' = st') := fun v st' => by
   refine (C5 v (-999) 999 st').mono ?_
   rintro _ _ ⟨rfl, rfl⟩
   refine ⟨?_, rfl⟩
   congr 1
   unfold iT
   split
   · rename_i h; simp [h.1, h.2]
   · rename_i h
     rw [show (decide (((0 : Int), (5 : Int)) = (v, 0))) = false from fJ (by simp)]
     simp only [Bool.and_eq_false_iff, dH]
     omega
  have hrn : ∀ v, iT v ≠ (v, 0) → iT v = (0, 5) := fun v h => by
   unfold iT at h ⊢
   split
   · rename_i h'; rw [aG h'] at h; exact absurd rfl h
   · rfl
  unfold qQ
  simp -implicitDefEqProofs only [aA, seval, uS]
  refine aQ (fun h6 => ?_) (fun h6 => ?_)
  · simp -implicitDefEqProofs only [hw1, aA, seval]
    rw [aG (by simpa using h6)]
    refine (hrg (a + b) _).to ?_
    simp -implicitDefEqProofs only [aA, seval]
    refine aQ (fun h8 => ?_) (fun h8 => ?_)
    · simp -implicitDefEqProofs only [aA, seval]
      rw [hrn _ (by simpa using h8)]
    · simp -implicitDefEqProofs only [aA, seval]
      rw [show iT (a + b) = (a + b, 0) by simpa using h8]
  rw [aE (by simpa using h6)]
  simp -implicitDefEqProofs only [aA, seval]
  refine aQ (fun h7 => ?_) (fun h7 => ?_)
  · simp -implicitDefEqProofs only [hw2, aA, seval]
    rw [aG (by simpa using h7)]
    refine (hrg (a - b) _).to ?_
    simp -implicitDefEqProofs only [aA, seval]
    refine aQ (fun h8 => ?_) (fun h8 => ?_)
    · simp -implicitDefEqProofs only [aA, seval]
      rw [hrn _ (by simpa using h8)]
    · simp -implicitDefEqProofs only [aA, seval]
      rw [show iT (a - b) = (a - b, 0) by simpa using h8]
  rw [aE (by simpa using h7)]
  simp -implicitDefEqProofs only [aA, seval]
  refine aQ (fun h9 => ?_) (fun h9 => ?_)
  · simp -implicitDefEqProofs only [hw3, aA, seval]
    rw [aG (by simpa using h9)]
    refine (hrg (a * b) _).to ?_
    simp -implicitDefEqProofs only [aA, seval]
    refine aQ (fun h8 => ?_) (fun h8 => ?_)
    · simp -implicitDefEqProofs only [aA, seval]
      rw [hrn _ (by simpa using h8)]
    · simp -implicitDefEqProofs only [aA, seval]
      rw [show iT (a * b) = (a * b, 0) by simpa using h8]
  rw [aE (by simpa using h9)]
  simp -implicitDefEqProofs only [aA, seval]
  refine aQ (fun h0 => ?_) (fun h0 => ?_)
  · simp -implicitDefEqProofs only [aA, seval]
    rw [aG (by simpa using h0)]
  have h0' : b ≠ 0 := by simpa using h0
  rw [aE h0']
  have hq := tdiv_le a b hx
  have hr := JO a b h0'
  have hf := Y3 a b hx hy h0'
  have hfe := aT8 a b h0'
  have hw4 := bK (n := a.tdiv b)
  have hw5 := bK (n := a.tmod b + b)
  have aTW : iT (a.tdiv b) = (a.tdiv b, 0) := by unfold iT; rw [aG hq]
  have aU9 : iT (oZ a b) = (oZ a b, 0) := by unfold iT; rw [aG hf]
  simp -implicitDefEqProofs only [hw4, h0', aA, seval, uS]
  refine aQ (fun h10 => ?_) (fun h10 => ?_)
  · simp -implicitDefEqProofs only [hw5, h0', hfe, aA, seval]
    rw [aG (by simpa using h10)]
    refine (hrg (oZ a b) _).to ?_
    have hd : decide (iT (oZ a b) = (oZ a b, 0)) = true := by rw [aU9]; simp
    simp -implicitDefEqProofs only [hd, aA, seval]
  · simp -implicitDefEqProofs only [aA, seval]
    rw [aE (by simpa using h10)]
    refine (hrg (a.tdiv b) _).to ?_
    have hd : decide (iT (a.tdiv b) = (a.tdiv b, 0)) = true := by rw [aTW]; simp
    simp -implicitDefEqProofs only [hd, aA, seval]
termination_by t => SizeOf.sizeOf t
decreasing_by have := List.sizeOf_lt_of_mem hx; simp only [Tm.mk.sizeOf_spec]; omega
theorem L5 (n : Int) (st : aB) : aD prog 227 [.int .i64 n] st (fun r st' => r = .tup [.int .i64 (iT n).1, .int .i64 (iT n).2] ∧ st' = st) := by
 refine wF [1000000] 1 func227 ntmps227 rfl rfl ?_
 intro _
 simp -implicitDefEqProofs only [aA, seval]
 refine cT (fun h => ?_) (fun h => ?_)
 · simp -implicitDefEqProofs only [h, aA, seval]
   have h1 : ¬ n < -999 := by simpa using h
   refine aQ (fun h2 => ?_) (fun h2 => ?_)
   · simp -implicitDefEqProofs only [aA, seval]
     have h2' : 999 < n := by simpa using h2
     unfold iT
     rw [aE (by omega)]
   · simp -implicitDefEqProofs only [aA, seval]
     have h2' : ¬ 999 < n := by simpa using h2
     unfold iT
     rw [aG (by omega)]
 · simp -implicitDefEqProofs only [h, aA, seval]
   have h1 : n < -999 := by simpa using h
   unfold iT
   rw [aE (by omega)]
abbrev aO9 := zi tI_3 (zi zI_3 (zi aX (zi tI_4 (zi zI_4 cD))))
theorem aWG (a b : Int) (ha : jW a) (hb : jW b) (h0 : b ≠ 0) (st : aB) : aD prog 228 [.int .i64 a, .int .i64 b] st (fun r st' => r = .int .i64 (oZ a b) ∧ st' = st) := by
 have hl := JO a b h0
 unfold jW at ha hb
 have hw := bK (n := a.tmod b + b)
 refine wF [1000000] 2 func228 ntmps228 rfl rfl ?_
 intro _
 simp -implicitDefEqProofs only [h0, aA, seval]
 have hf : oZ a b = if a.tmod b ≠ 0 ∧ decide (a.tmod b < 0) ≠ decide (b < 0) then a.tmod b + b else a.tmod b := rfl
 rw [hf]
 clear hf
 generalize hm : a.tmod b = m at *
 refine cT (fun h => ?_) (fun h => ?_)
 · have h' : m ≠ 0 := by simpa using h
   simp -implicitDefEqProofs only [h, aA, seval, aO9]
   refine aQ (fun h2 => ?_) (fun h2 => ?_)
   · simp -implicitDefEqProofs only [hw, aA, seval]
     rw [aG ⟨h', by simpa using h2⟩]
   · simp -implicitDefEqProofs only [aA, seval]
     rw [aE (by intro h3; exact h3.2 (by simpa using h2))]
 · have h' : m = 0 := by simpa using h
   simp -implicitDefEqProofs only [h, aA, seval]
   rw [aE (by intro h3; exact h3.1 h')]
theorem aMU (a b : Int) (ha : jW a) (hb : jW b) (h0 : b ≠ 0) (st : aB) : aD prog 229 [.int .i64 a, .int .i64 b] st (fun r st' => r = .int .i64 (a.tdiv b) ∧ st' = st) := by
 have hl := tdiv_le a b ha
 have hw := bK (n := a.tdiv b)
 refine wF [1000000] 2 func229 ntmps229 rfl rfl ?_
 intro _
 simp -implicitDefEqProofs only [h0, hw, aA, seval]
theorem aC7 (s : ByteArray) (a b : Int) (hx : jW a) (hy : jW b) (st : aB) : aD prog 207 [.str s, .int .i64 a, .int .i64 b] st (fun r st' => r = .tup [.int .i64 (qQ s a b).1, .int .i64 (qQ s a b).2] ∧ st' = st) := by
 have hMod := fun h0 => aWG a b hx hy h0
 have hDiv := fun h0 => aMU a b hx hy h0
 unfold jW at hx hy
 have hmul : -998001 ≤ a * b ∧ a * b ≤ 998001 := by
  have h6 : (a * b).natAbs ≤ 998001 := by
   rw [Int.natAbs_mul]
   have := Nat.mul_le_mul (show a.natAbs ≤ 999 by omega) (show b.natAbs ≤ 999 by omega)
   omega
  omega
 have hw1 := bK (n := a + b)
 have hw2 := bK (n := a - b)
 have hw3 := bK (n := a * b)
 unfold qQ
 refine wF [1000000] 3 func207 ntmps207 rfl rfl ?_
 intro _
 simp -implicitDefEqProofs only [aA, seval]
 refine aQ (fun h6 => ?_) (fun h6 => ?_)
 · simp -implicitDefEqProofs only [hw1, aA, seval]
   rw [aG (by simpa using h6)]
   refine (L5 _ _).to ?_
   simp -implicitDefEqProofs only [aA, seval]
 rw [aE (by simpa using h6)]
 simp -implicitDefEqProofs only [aA, seval]
 refine aQ (fun h7 => ?_) (fun h7 => ?_)
 · simp -implicitDefEqProofs only [hw2, aA, seval]
   rw [aG (by simpa using h7)]
   refine (L5 _ _).to ?_
   simp -implicitDefEqProofs only [aA, seval]
 rw [aE (by simpa using h7)]
 simp -implicitDefEqProofs only [aA, seval]
 refine aQ (fun h9 => ?_) (fun h9 => ?_)
 · simp -implicitDefEqProofs only [hw3, aA, seval]
   rw [aG (by simpa using h9)]
   refine (L5 _ _).to ?_
   simp -implicitDefEqProofs only [aA, seval]
 rw [aE (by simpa using h9)]
 simp -implicitDefEqProofs only [aA, seval]
 refine aQ (fun h0 => ?_) (fun h0 => ?_)
 · simp -implicitDefEqProofs only [aA, seval]
   rw [aG (by simpa using h0)]
 have h0' : b ≠ 0 := by simpa using h0
 rw [aE h0']
 simp -implicitDefEqProofs only [aA, seval]
 refine aQ (fun h10 => ?_) (fun h10 => ?_)
 · simp -implicitDefEqProofs only [aA, seval]
   rw [aG (by simpa using h10)]
   refine (hMod h0' _).to ?_
   simp -implicitDefEqProofs only [aA, seval]
 · simp -implicitDefEqProofs only [aA, seval]
   rw [aE (by simpa using h10)]
   refine (hDiv h0' _).to ?_
   simp -implicitDefEqProofs only [aA, seval]
theorem I6 (s : ByteArray) : fO pH s = decide (dL s = 1 ∨ dL s = 2) := by
 unfold fO pH dL
 simp only [DE, List.any_nil, GX]
 by_cases h1 : s = ⟨#[43]⟩
 · subst h1; decide
 by_cases h2 : s = ⟨#[45]⟩
 · subst h2; decide
 by_cases h3 : s = ⟨#[42]⟩
 · subst h3; decide
 by_cases h4 : s = ⟨#[47, 47]⟩
 · subst h4; decide
 by_cases h5 : s = ⟨#[109, 111, 100]⟩
 · subst h5; decide
 simp only [h1, h2, h3, h4, h5, bX, GX, AD]
 cases (decide (s = ⟨#[61]⟩) || decide (s = ⟨#[92, 61]⟩) || decide (s = ⟨#[61, 61]⟩) || decide (s = ⟨#[60]⟩) || decide (s = ⟨#[62]⟩) || decide (s = ⟨#[61, 60]⟩) || decide (s = ⟨#[62, 61]⟩) || decide (s = ⟨#[61, 58, 61]⟩) || decide (s = ⟨#[105, 115]⟩)) <;> rfl
abbrev p7 := zi tI_3 (zi zI_3 (zi aX (zi tI_9 (zi zI_9 (zi cH (zi tI_31 (zi zI_31 (zi aN (zi bE (zi bF (zi b9 (zi tI_63 (zi zI_63 (zi bP (zi bQ (zi bT (zi bS bR)))))))))))))))))
theorem JN {N : Int} : ∀ (t : Tm) (st : aB), cE N t → aD prog 171 [t.av] st (fun r st' => r = .tup [.int .i64 t.ev.1, .int .i64 t.ev.2] ∧ st' = st)
 | .mk k n s ts, st, hok => by
  obtain ⟨h1, h2⟩ := hok.all
  have IH := fun (x : Tm) (hx : x ∈ ts) st => JN x st (h2 x hx)
  rw [Tm.vZ]
  simp only [aV]
  refine wF [1000000] 1 func171 ntmps171 rfl rfl ?_
  intro _
  simp -implicitDefEqProofs only [aA, seval, p7]
  refine aQ (fun hk1 => ?_) (fun hk1 => ?_)
  · simp -implicitDefEqProofs only [aA, seval]
    simp only [bJ] at hk1
    rw [aE (by omega), aG hk1]
  simp only [dH] at hk1
  rw [aE hk1]
  simp -implicitDefEqProofs only [aA, seval]
  refine aQ (fun hk => ?_) (fun hk => ?_)
  · simp -implicitDefEqProofs only [aA, seval, p7]
    simp only [bJ] at hk
    simp [hk]
  simp only [dH] at hk
  rw [aE hk]
  simp -implicitDefEqProofs only [aA, seval, p7]
  refine (uL s _).to ?_
  simp -implicitDefEqProofs only [aF, aA, seval, p7]
  have hty : ∀ s0 : aB, ts.length ≠ 2 ∨ fO pH s = false → (if fO pH s = true then two (qQ s) (ts.map Tm.ev) else (0, 3)) = ((0 : Int), (3 : Int)) := fun _ h => by
   split
   · rename_i h3
     rcases h with h | h
     · match ts, h with
       | [], _ => rfl
       | [x], _ => rfl
       | [x, y], h => simp at h
       | x :: y :: z :: l, _ => rfl
     · rw [h] at h3; cases h3
   · rfl
  refine cT (fun h => ?_) (fun h => ?_)
  case refine_2 =>
   simp -implicitDefEqProofs only [h, aA, seval]
   rw [hty st (.inl (by simp at h; omega))]
  simp -implicitDefEqProofs only [h, aA, seval]
  have ZC : fO pH s = false → dL s ≠ 1 ∧ dL s ≠ 2 := fun h => by
   rw [I6] at h
   have := of_decide_eq_false h
   omega
  refine cT (fun h3 => ?_) (fun h3 => ?_)
  · simp -implicitDefEqProofs only [h3, aA, seval]
    have h3' : dL s ≠ 1 := by simp at h3; omega
    refine aQ (fun h6 => ?_) (fun h6 => ?_)
    · have h6' : dL s ≠ 2 := by simp at h6; omega
      simp -implicitDefEqProofs only [aA, seval]
      rw [hty st (.inr (by rw [I6]; simp [h3', h6']))]
    · have h6' : dL s = 2 := by simp at h6; omega
      have hin : fO pH s = true := by rw [I6]; simp [h6']
      simp -implicitDefEqProofs only [aA, seval, p7]
      rw [aG hin]
      clear hty ZC
      obtain ⟨x, y, rfl⟩ := OW (by simpa using h)
      have dT : dJ prog 31 (.slice [x.av, y.av]) (.int .i64 0) = some (.pptr x.av) := bL (av := Tm.av) (l := [x, y]) (i := 0) aN rfl (aH x)
      have gC : dJ prog 31 (.slice [x.av, y.av]) (.int .i64 1) = some (.pptr y.av) := bL (av := Tm.av) (l := [x, y]) (i := 1) aN rfl (aH y)
      have hx := Tm.tQ x (h2 x (by simp))
      have hy := Tm.tQ y (h2 y (by simp))
      have IHx := fun st => IH x (by simp) st
      have IHy := fun st => IH y (by simp) st
      simp only [bA, aW, two, both]
      simp -implicitDefEqProofs only [dT, aT, aH, aA, ↓aU, seval, p7]
      refine (IHx _).to ?_
      generalize x.ev.1 = a at *
      generalize x.ev.2 = ca at *
      generalize y.ev.1 = b at *
      generalize y.ev.2 = cb at *
      simp -implicitDefEqProofs only [aA, seval]
      refine aQ (fun h4 => ?_) (fun h4 => ?_)
      · simp -implicitDefEqProofs only [aA, seval]
        have h4' : ca ≠ 0 := by simpa using h4
        rw [aG h4']
      have h4' : ca = 0 := by simpa using h4
      subst h4'
      rw [aE (by simp)]
      simp -implicitDefEqProofs only [gC, aT, aH, aA, seval, p7]
      refine (IHy _).to ?_
      simp -implicitDefEqProofs only [aA, seval]
      refine aQ (fun h5 => ?_) (fun h5 => ?_)
      · simp -implicitDefEqProofs only [aA, seval]
        have h5' : cb ≠ 0 := by simpa using h5
        rw [aG h5']
      have h5' : cb = 0 := by simpa using h5
      subst h5'
      rw [aE (by simp)]
      simp -implicitDefEqProofs only [aA, seval, p7]
      refine (aC7 s a b hx hy _).to ?_
      simp -implicitDefEqProofs only [aA, seval]
  · have h3' : dL s = 1 := by simp at h3; omega
    have hin : fO pH s = true := by rw [I6]; simp [h3']
    simp -implicitDefEqProofs only [h3, aA, seval, p7]
    rw [aG hin]
    clear hty ZC
    obtain ⟨x, y, rfl⟩ := OW (by simpa using h)
    have dT : dJ prog 31 (.slice [x.av, y.av]) (.int .i64 0) = some (.pptr x.av) := bL (av := Tm.av) (l := [x, y]) (i := 0) aN rfl (aH x)
    have gC : dJ prog 31 (.slice [x.av, y.av]) (.int .i64 1) = some (.pptr y.av) := bL (av := Tm.av) (l := [x, y]) (i := 1) aN rfl (aH y)
    have hx := Tm.tQ x (h2 x (by simp))
    have hy := Tm.tQ y (h2 y (by simp))
    have IHx := fun st => IH x (by simp) st
    have IHy := fun st => IH y (by simp) st
    simp only [bA, aW, two, both]
    simp -implicitDefEqProofs only [dT, aT, aH, aA, ↓aU, seval, p7]
    refine (IHx _).to ?_
    generalize x.ev.1 = a at *
    generalize x.ev.2 = ca at *
    generalize y.ev.1 = b at *
    generalize y.ev.2 = cb at *
    simp -implicitDefEqProofs only [aA, seval]
    refine aQ (fun h4 => ?_) (fun h4 => ?_)
    · simp -implicitDefEqProofs only [aA, seval]
      have h4' : ca ≠ 0 := by simpa using h4
      rw [aG h4']
    have h4' : ca = 0 := by simpa using h4
    subst h4'
    rw [aE (by simp)]
    simp -implicitDefEqProofs only [gC, aT, aH, aA, seval, p7]
    refine (IHy _).to ?_
    simp -implicitDefEqProofs only [aA, seval]
    refine aQ (fun h5 => ?_) (fun h5 => ?_)
    · simp -implicitDefEqProofs only [aA, seval]
      have h5' : cb ≠ 0 := by simpa using h5
      rw [aG h5']
    have h5' : cb = 0 := by simpa using h5
    subst h5'
    rw [aE (by simp)]
    simp -implicitDefEqProofs only [aA, seval, p7]
    refine (aC7 s a b hx hy _).to ?_
    simp -implicitDefEqProofs only [aA, seval]
termination_by t => SizeOf.sizeOf t
decreasing_by have := List.sizeOf_lt_of_mem hx; simp only [Tm.mk.sizeOf_spec]; omega
abbrev aD7 := zi tI_3 (zi zI_3 (zi aX (zi tI_51 (zi zI_51 (zi dW (zi fW (zi fU gA)))))))
theorem aK2 (l : List Int) (v : Int) (st : aB) : aD prog 199 [.slice (l.map iv), .int .i64 v] st (fun r st' => r = .int .i64 (eN v l 0) ∧ st' = st) := by
 refine wF [] 2 func199 ntmps199 rfl rfl ?_
 simp only [eG, AV.fits, eM, aF]
 intro ⟨hl, _⟩
 simp -implicitDefEqProofs only [aF, aA, seval, aD7]
 refine eL (σ := Unit) [] [0, 1, 7] l (fun i _ => eN v l 0 = eN v (l.drop i) i) (fun i _ => [(8, .int .i64 i)]) (fun _ _ => st) (by decide +kernel) ⟨(), rfl, aO.mk (by simp -implicitDefEqProofs only [aA, ↓aU, seval])⟩ (fun i x _ hx hlt bU hdr hinv => ?_) (fun _ hge hinv => ?_)
 case refine_2 =>
  simp -implicitDefEqProofs only [hge, aA, seval]
  rw [hinv, kH]
  try rfl
 rw [hdr, eN] at hinv
 have hw := bK (n := (i : Int) + 1)
 simp -implicitDefEqProofs only [bU, bL (av := iv) dW hx rfl, aA, seval, aD7]
 refine aQ (fun h => ?_) (fun h => ?_)
 · simp only [bJ] at h
   rw [aG h] at hinv
   simp -implicitDefEqProofs only [hinv, aA, seval]
 · simp only [dH] at h
   rw [aE h] at hinv
   simp -implicitDefEqProofs only [aA, seval]
   exact ⟨(), by rw [hinv], aO.mk (by simp -implicitDefEqProofs only [hw, aA, seval])⟩
theorem aQX (l : List Int) (v : Int) (st : aB) : aD prog 181 [.slice (l.map iv), .int .i64 v] st (fun r st' => r = .bool (decide (v ∈ l)) ∧ st' = st) := by
 refine wF [] 2 func181 ntmps181 rfl rfl ?_
 intro _
 simp -implicitDefEqProofs only [aA, seval]
 refine (aK2 l v st).to ?_
 simp -implicitDefEqProofs only [aJS v l 0 (Int.le_refl 0), aA, seval]
theorem aRU {st : aB} {b : Nat} {l : List Int} {os xs : List AV} (h : Seen (aZ st b (l.map iv)) dX os xs) : Seen (aZ st b (l.map iv)) dX (a9 1 b (l.map iv) :: os) (.slice (l.map iv) :: xs) :=
 Seen.own (aZM (cF.flat (by simp [AV.flat])) (by intro e h; simp only [cU] at h; obtain ⟨t, _, rfl⟩ := h; rfl)) h
def Grown (st : aB) (l : List Int) (r : AV) (st' : aB) : Prop := ∃ b', r = a9 1 b' (l.map iv) ∧ st' = aZ st b' (l.map iv) ∧ (l.map iv ≠ [] → st b' = none)
abbrev qF := zi tI_3 (zi zI_3 (zi aX (zi tI_4 (zi zI_4 (zi cD (zi tI_31 (zi zI_31 (zi aN (zi bE (zi bF (zi b9 (zi tI_51 (zi zI_51 (zi dW (zi fW (zi fU (zi gA (zi tI_63 (zi zI_63 (zi bP (zi bQ (zi bT (zi bS bR)))))))))))))))))))))))
theorem aHP : ∀ (t : Tm) (l : List Int) (b : Nat) (st : aB), (l.map iv ≠ [] → st b = none) → l.length + t.nodes ≤ 1099511627776 → aD prog 146 [t.av, a9 1 b (l.map iv)] (aZ st b (l.map iv)) (Grown st (t.vars l))
 | .mk k n s ts, l, b, st, hb, hsz => by
  have IH := fun (x : Tm) (hx : x ∈ ts) => aHP x
  simp only [Tm.vars]
  rw [Tm.gP] at hsz
  refine wF [] 2 func146 ntmps146 rfl rfl ?_
  simp only [aV, eG, AV.fits, eM, aF]
  intro ⟨⟨_, _, _, hl, _⟩, _⟩
  simp -implicitDefEqProofs only [aA, seval, qF]
  refine cT (fun h => ?_) (fun h => ?_)
  · simp only [bJ] at h
    subst h
    simp -implicitDefEqProofs only [aA, seval, qF]
    refine (aD.see (fun s => aQX l n s) (aRU (Seen.same .nil)) rfl).to ?_
    simp -implicitDefEqProofs only [aA, seval]
    refine aQ (fun h => ?_) (fun h => ?_)
    · simp only [lZ, dH] at h
      rw [aG h]
      simp -implicitDefEqProofs only [aA, seval, qF]
      refine eO dW fW fU rfl rfl (fB rfl rfl) (by intro e h; simp only [cU] at h; obtain ⟨t, _, rfl⟩ := h; rfl) hb (by simp; omega) (by simp; omega) (fun b' hb' => ?_)
      rw [show l.map iv ++ [AV.int .i64 n] = (l ++ [n]).map iv by simp] at hb' ⊢
      simp -implicitDefEqProofs only [aA, seval, qF]
      refine eL (σ := List Int × Nat) [] [4, 23, 24] ts (fun i p => b7 (ts.drop i) p.1 = b7 ts (l ++ [n]) ∧ p.1.length + bG Tm.nodes (ts.drop i) ≤ 1099511627776 ∧ (p.1.map iv ≠ [] → st p.2 = none)) (fun i p => [(1, a9 1 p.2 (p.1.map iv)), (25, .int .i64 i)]) (fun _ p => aZ st p.2 (p.1.map iv)) (by decide +kernel)
       ⟨(l ++ [n], b'), ⟨rfl, by simp; omega, hb'⟩, aO.mk (by simp -implicitDefEqProofs only [aF, aA, ↓aU, seval])⟩ (fun i x p hx hlt bU hdr hinv => ?_) (fun p hge hinv => ?_)
      case refine_2 =>
       simp -implicitDefEqProofs only [aF, hge, aA, seval]
       rw [← hinv.1, kH]
       exact ⟨p.2, rfl, rfl, hinv.2.2⟩
      obtain ⟨acc, b⟩ := p
      rw [hdr] at hinv
      obtain ⟨i1, i2, i3⟩ := hinv
      simp only [bG] at i2
      have hw := bK (n := (i : Int) + 1)
      simp -implicitDefEqProofs only [aF, bU, bL (av := Tm.av) aN hx (aH x), aT, aH, aA, seval, qF]
      intro b2 hb2
      obtain ⟨hn2, hne⟩ := A3 hb2
      have hc2 : [AV.int IntKind.i64 0, AV.int IntKind.i64 0, AV.str ⟨#[]⟩, AV.fslice []].length = 4 := rfl
      try simp -implicitDefEqProofs only [dE, yZ (x := x.av.cells) (bO x) hc2, bO, bZ, d9 (bO x), d8 (aT x), c7, aA, ↓aU, seval, qF]
      rw [oJ hne]
      refine (IH x (cW hx) acc b _ (fun h => by rw [aB.aM _ _ (dB (hne h))]; exact i3 h) (by omega)).mono ?_
      rintro _ _ ⟨b', rfl, rfl, hb'⟩
      simp -implicitDefEqProofs only [hw, aA, seval]
      obtain ⟨hd, zW⟩ := IL (o := .cells x.av.cells) hn2 hb'
      have hvl := Tm.AM x acc
      refine ⟨(x.vars acc, b'), ⟨i1, by simp only; omega, zW⟩, aO.drop hd (by simp -implicitDefEqProofs only [aA, seval])⟩
    · simp only [tX, bJ] at h
      rw [aE (by simp [h])]
      simp -implicitDefEqProofs only [aA, seval, qF]
      refine eL (σ := List Int × Nat) [] [4, 23, 24] ts (fun i p => b7 (ts.drop i) p.1 = b7 ts (l) ∧ p.1.length + bG Tm.nodes (ts.drop i) ≤ 1099511627776 ∧ (p.1.map iv ≠ [] → st p.2 = none)) (fun i p => [(1, a9 1 p.2 (p.1.map iv)), (25, .int .i64 i)]) (fun _ p => aZ st p.2 (p.1.map iv)) (by decide +kernel)
       ⟨(l, b), ⟨rfl, by simp; omega, hb⟩, aO.mk (by simp -implicitDefEqProofs only [aF, aA, ↓aU, seval])⟩ (fun i x p hx hlt bU hdr hinv => ?_) (fun p hge hinv => ?_)
      case refine_2 =>
       simp -implicitDefEqProofs only [aF, hge, aA, seval]
       rw [← hinv.1, kH]
       exact ⟨p.2, rfl, rfl, hinv.2.2⟩
      obtain ⟨acc, b⟩ := p
      rw [hdr] at hinv
      obtain ⟨i1, i2, i3⟩ := hinv
      simp only [bG] at i2
      have hw := bK (n := (i : Int) + 1)
      simp -implicitDefEqProofs only [aF, bU, bL (av := Tm.av) aN hx (aH x), aT, aH, aA, seval, qF]
      intro b2 hb2
      obtain ⟨hn2, hne⟩ := A3 hb2
      have hc2 : [AV.int IntKind.i64 0, AV.int IntKind.i64 0, AV.str ⟨#[]⟩, AV.fslice []].length = 4 := rfl
      try simp -implicitDefEqProofs only [dE, yZ (x := x.av.cells) (bO x) hc2, bO, bZ, d9 (bO x), d8 (aT x), c7, aA, ↓aU, seval, qF]
      rw [oJ hne]
      refine (IH x (cW hx) acc b _ (fun h => by rw [aB.aM _ _ (dB (hne h))]; exact i3 h) (by omega)).mono ?_
      rintro _ _ ⟨b', rfl, rfl, hb'⟩
      simp -implicitDefEqProofs only [hw, aA, seval]
      obtain ⟨hd, zW⟩ := IL (o := .cells x.av.cells) hn2 hb'
      have hvl := Tm.AM x acc
      refine ⟨(x.vars acc, b'), ⟨i1, by simp only; omega, zW⟩, aO.drop hd (by simp -implicitDefEqProofs only [aA, seval])⟩
  · simp only [oW, dH] at h
    rw [aE (by simp [h])]
    simp -implicitDefEqProofs only [h, aA, seval, qF]
    refine eL (σ := List Int × Nat) [] [4, 23, 24] ts (fun i p => b7 (ts.drop i) p.1 = b7 ts (l) ∧ p.1.length + bG Tm.nodes (ts.drop i) ≤ 1099511627776 ∧ (p.1.map iv ≠ [] → st p.2 = none)) (fun i p => [(1, a9 1 p.2 (p.1.map iv)), (25, .int .i64 i)]) (fun _ p => aZ st p.2 (p.1.map iv)) (by decide +kernel)
     ⟨(l, b), ⟨rfl, by simp; omega, hb⟩, aO.mk (by simp -implicitDefEqProofs only [aF, aA, ↓aU, seval])⟩ (fun i x p hx hlt bU hdr hinv => ?_) (fun p hge hinv => ?_)
    case refine_2 =>
     simp -implicitDefEqProofs only [aF, hge, aA, seval]
     rw [← hinv.1, kH]
     exact ⟨p.2, rfl, rfl, hinv.2.2⟩
    obtain ⟨acc, b⟩ := p
    rw [hdr] at hinv
    obtain ⟨i1, i2, i3⟩ := hinv
    simp only [bG] at i2
    have hw := bK (n := (i : Int) + 1)
    simp -implicitDefEqProofs only [aF, bU, bL (av := Tm.av) aN hx (aH x), aT, aH, aA, seval, qF]
    intro b2 hb2
    obtain ⟨hn2, hne⟩ := A3 hb2
    have hc2 : [AV.int IntKind.i64 0, AV.int IntKind.i64 0, AV.str ⟨#[]⟩, AV.fslice []].length = 4 := rfl
    try simp -implicitDefEqProofs only [dE, yZ (x := x.av.cells) (bO x) hc2, bO, bZ, d9 (bO x), d8 (aT x), c7, aA, ↓aU, seval, qF]
    rw [oJ hne]
    refine (IH x (cW hx) acc b _ (fun h => by rw [aB.aM _ _ (dB (hne h))]; exact i3 h) (by omega)).mono ?_
    rintro _ _ ⟨b', rfl, rfl, hb'⟩
    simp -implicitDefEqProofs only [hw, aA, seval]
    obtain ⟨hd, zW⟩ := IL (o := .cells x.av.cells) hn2 hb'
    have hvl := Tm.AM x acc
    refine ⟨(x.vars acc, b'), ⟨i1, by simp only; omega, zW⟩, aO.drop hd (by simp -implicitDefEqProofs only [aA, seval])⟩
termination_by t => SizeOf.sizeOf t
decreasing_by have := List.sizeOf_lt_of_mem hx; simp only [Tm.mk.sizeOf_spec]; omega
abbrev NC := zi tI_3 (zi zI_3 (zi aX (zi tI_31 (zi zI_31 (zi aN (zi bE (zi bF (zi b9 (zi tI_51 (zi zI_51 (zi dW (zi fW (zi fU (zi gA (zi tI_63 (zi zI_63 (zi bP (zi bQ (zi bT (zi bS bR))))))))))))))))))))
theorem QA (l : List Tm) (st : aB) (hsz : bG Tm.nodes l ≤ 1099511627776) : aD prog 113 [.slice (l.map Tm.av)] st (fun r st' => r = .slice ((b7 l []).map iv) ∧ st' = st) := by
 refine aD.fin ?_
 refine wF [] 1 func113 ntmps113 rfl rfl ?_
 simp only [eG, AV.fits, eM, aF]
 intro ⟨hl, _⟩
 simp -implicitDefEqProofs only [aF, aA, seval, NC]
 refine eL (σ := List Int × Nat) [] [2, 6, 7] l (fun i p => b7 (l.drop i) p.1 = b7 l ([]) ∧ p.1.length + bG Tm.nodes (l.drop i) ≤ 1099511627776 ∧ (p.1.map iv ≠ [] → st p.2 = none)) (fun i p => [(3, a9 1 p.2 (p.1.map iv)), (8, .int .i64 i)]) (fun _ p => aZ st p.2 (p.1.map iv)) (by decide +kernel)
  ⟨([], 0), ⟨rfl, by simp; omega, by simp⟩, aO.mk (by simp -implicitDefEqProofs only [aW, jG, aA, ↓aU, seval])⟩ (fun i x p hx hlt bU hdr hinv => ?_) (fun p hge hinv => ?_)
 case refine_2 =>
  simp -implicitDefEqProofs only [hge, aA, seval]
  rw [← hinv.1, kH]
  exact ⟨p.2, p.1.map iv, st, rfl, hinv.2.2, by simp [AV.cB], ⟨1, TC p.1⟩, iD, rfl⟩
 obtain ⟨acc, b⟩ := p
 rw [hdr] at hinv
 obtain ⟨i1, i2, i3⟩ := hinv
 simp only [bG] at i2
 have hw := bK (n := (i : Int) + 1)
 simp -implicitDefEqProofs only [bU, bL (av := Tm.av) aN hx (aH x), aT, aH, aA, seval, NC]
 intro b2 hb2
 obtain ⟨hn2, hne⟩ := A3 hb2
 have w7 : ∀ zs : List AV, zs.length = 4 → aK zs 0 x.av.cells = x.av.cells := fun zs h => yZ (bO x) h
 try simp -implicitDefEqProofs only [dE, w7, bO, bZ, d9 (bO x), d8 (aT x), c7, aA, ↓aU, seval, NC]
 rw [oJ hne]
 refine (aHP x acc b _ (fun h => by rw [aB.aM _ _ (dB (hne h))]; exact i3 h) (by omega)).mono ?_
 rintro _ _ ⟨b', rfl, rfl, hb'⟩
 simp -implicitDefEqProofs only [hw, aA, seval]
 obtain ⟨hd, zW⟩ := IL (o := .cells x.av.cells) hn2 hb'
 have hvl := Tm.AM x acc
 exact ⟨(x.vars acc, b'), ⟨i1, by simp only; omega, zW⟩, aO.drop hd (by simp -implicitDefEqProofs only [aA, seval])⟩
abbrev FQ := zi tI_3 (zi zI_3 (zi aX (zi tI_31 (zi zI_31 (zi aN (zi bE (zi bF (zi b9 (zi tI_51 (zi zI_51 (zi dW (zi fW (zi fU (zi gA (zi tI_63 (zi zI_63 (zi bP (zi bQ (zi bT (zi bS bR))))))))))))))))))))
theorem GA : ∀ (t : Tm) (l : List Int) (b : Nat) (st : aB), t.wf = true → (l.map iv ≠ [] → st b = none) → l.length + t.nodes ≤ 1099511627776 → aD prog 103 [a9 1 b (l.map iv), t.av] (aZ st b (l.map iv)) (Grown st (t.vars l))
 | .mk k n s ts, l, b, st, hwf, hb, hsz => by
  obtain ⟨hk, aOH⟩ := Tm.Q0 hwf
  have IH := fun (x : Tm) (hx : x ∈ ts) l b st => GA x l b st (aOH x hx)
  have haL := sW (w := 1) (b := b) (l := l.map iv) gA
  simp only [Tm.vars]
  rw [Tm.gP] at hsz
  refine wF [] 2 func103 ntmps103 rfl rfl ?_
  simp only [aV, eG, AV.fits, eM, aF]
  intro ⟨_, ⟨_, _, _, hl, _⟩⟩
  simp -implicitDefEqProofs only [aA, seval, FQ]
  refine aQ (fun h => ?_) (fun h => ?_)
  · simp only [bJ] at h
    obtain rfl := hk h
    subst h
    simp -implicitDefEqProofs only [aA, seval]
    have hnn : l.length ≤ 1099511627776 := by omega
    refine eL (σ := Unit) [] [0, 3] l (fun i _ => ∀ y ∈ l.take i, y ≠ n) (fun i _ => [(5, .int .i64 i)]) (fun _ _ => aZ st b (l.map iv)) (by decide +kernel) ⟨(), by simp, aO.mk (by simp -implicitDefEqProofs only [aA, ↓aU, seval])⟩ (fun i x _ hx hlt bU hdr hinv => ?_) (fun _ hge hinv => ?_)
    case refine_2 =>
     rw [eS] at hinv
     have gM : n ∉ l := fun h => hinv n h rfl
     simp -implicitDefEqProofs only [haL, aF, hge, aA, seval, FQ]
     refine eO dW fW fU rfl rfl (fB rfl rfl) (TC l) hb (by simp; omega) (by simp; omega) (fun b' hb' => ?_)
     rw [show l.map iv ++ [AV.int .i64 n] = (l ++ [n]).map iv by simp] at hb' ⊢
     simp -implicitDefEqProofs only [aA, seval]
     exact ⟨b', by simp [b7, gM], by simp [b7, gM], by simp only [b7, gM, G3, fZ]; exact hb'⟩
    have hat := aAI (b := b) (l := l.map iv) (i := i) (x := iv x) dW (by rw [oV, hx]; try rfl)
    obtain ⟨gR, wN⟩ := S3 (st := st) (b := b) hx
    have hw := bK (n := (i : Int) + 1)
    simp -implicitDefEqProofs only [haL, aF, bU, aA, seval]
    refine HA mixed (by decide +kernel) (by decide +kernel) ?_
    simp -implicitDefEqProofs only [hat, gR, wN, DG, aA, seval, FQ]
    refine aQ (fun h => ?_) (fun h => ?_)
    · simp only [bJ] at h
      subst h
      have gM := cW hx
      simp -implicitDefEqProofs only [aA, seval]
      exact ⟨b, by simp [b7, gM], by simp [b7, gM], by simp only [b7, gM, K9, dZ]; exact hb⟩
    · simp only [dH] at h
      simp -implicitDefEqProofs only [aA, seval]
      refine ⟨(), ?_, aO.mk (by simp -implicitDefEqProofs only [hw, aA, seval])⟩
      intro y hy
      rw [fN, hx] at hy
      rcases fS.1 hy with hy | hy
      · exact hinv y hy
      · simp at hy; subst hy; exact h
  · simp only [dH] at h
    rw [aE (by simp [h])]
    simp -implicitDefEqProofs only [aA, seval]
    refine eL (σ := List Int × Nat) [] [3, 4] ts (fun i p => b7 (ts.drop i) p.1 = b7 ts l ∧ p.1.length + bG Tm.nodes (ts.drop i) ≤ 1099511627776 ∧ (p.1.map iv ≠ [] → st p.2 = none)) (fun i p => [(0, a9 1 p.2 (p.1.map iv)), (6, .int .i64 i)]) (fun _ p => aZ st p.2 (p.1.map iv)) (by decide +kernel)
     ⟨(l, b), ⟨rfl, by simp; omega, hb⟩, aO.mk (by simp -implicitDefEqProofs only [aA, ↓aU, seval])⟩ (fun i x p hx hlt bU hdr hinv => ?_) (fun p hge hinv => ?_)
    case refine_2 =>
     simp -implicitDefEqProofs only [aF, hge, aA, seval, FQ]
     rw [← hinv.1, kH]
     exact ⟨p.2, rfl, rfl, hinv.2.2⟩
    obtain ⟨acc, b⟩ := p
    rw [hdr] at hinv
    obtain ⟨i1, i2, i3⟩ := hinv
    simp only [bG] at i2
    have hw := bK (n := (i : Int) + 1)
    simp -implicitDefEqProofs only [aF, bU, bL (av := Tm.av) aN hx (aH x), aT, aH, aA, seval, FQ]
    refine (IH x (cW hx) acc b st i3 (by omega)).mono ?_
    rintro _ _ ⟨b', rfl, rfl, hb'⟩
    have hvl := Tm.AM x acc
    simp -implicitDefEqProofs only [hw, aA, seval]
    exact ⟨(x.vars acc, b'), ⟨i1, by simp only; omega, hb'⟩, aO.mk (by simp -implicitDefEqProofs only [aA, seval])⟩
termination_by t => SizeOf.sizeOf t
decreasing_by have := List.sizeOf_lt_of_mem hx; simp only [Tm.mk.sizeOf_spec]; omega
theorem aFL {A C B : List AV} {n : Nat} (hA : A.length = n) (hC : C.length = 4) :
 (n + 4 ≤ (A ++ C ++ B).length) ∧ List.take 4 (List.drop n (A ++ C ++ B)) = C ∧ (A ++ C ++ B)[n + 0]? = C[0]? := by
 refine ⟨by simp only [dQ]; omega, ?_, (N5 (A := A) (B := B) hA).2.2.1 C 0 (by omega)⟩
 rw [← hA, nZ, GZ, ← hC, G0]
abbrev OkN (t : Tm) : Prop := t.jN = true ∧ t.nodes ≤ 120
end Go.AW
namespace Go.AW
def mW (n : Int) : Tm := .mk 2 n ⟨#[]⟩ []
theorem aYE {n : Int} (h : jW n) : (mW n).valid = true := by
 have ho : (mW n).jN = true := by
  unfold mW
  rw [Tm.yL]
  simp [eE, h.1, h.2]
 rw [Tm.aD4 ho]
 simp [mW, Tm.gP, bG, Tm.uK]
def g9 (b : Bool) : Int := if b = true then 0 else 1
def KK (s : ByteArray) (a b : Int) : Bool :=
 if s = ⟨#[60]⟩ then decide (a < b) else if s = ⟨#[62]⟩ then decide (b < a) else if s = ⟨#[61, 60]⟩ then decide (a ≤ b) else if s = ⟨#[62, 61]⟩ then decide (b ≤ a) else decide (a = b)
def rB (s : ByteArray) (x : Tm) : Bool :=
 if s = ⟨#[118, 97, 114]⟩ then decide (x.k = 1) else if s = ⟨#[110, 111, 110, 118, 97, 114]⟩ then !decide (x.k = 1) else if s = ⟨#[97, 116, 111, 109]⟩ then decide (x.k = 3) && decide ((x.ts.length : Int) = 0) else decide (x.k = 2)
def xG (s : ByteArray) (x y : Tm) : Int := (both (fun a b => (0, g9 (KK s a b))) x.ev y.ev).2
def mJ (x y : Tm) : Option Tm := if 1 ≤ x.n ∧ x.n ≤ y.ts.length then y.ts[(x.n - 1).toNat]? else none
structure a1U (σ : Sub) : Prop where
 gK : cL σ
 jN : cP (fun t => t.jN = true) σ
 okN : cP OkN σ
theorem aKP {x y u : Tm} (h : mJ x y = some u) : u ∈ y.ts := by
 unfold mJ at h
 split at h
 · exact cW h
 · cases h
theorem aHD {s : ByteArray} {n : Nat} (h : isBuiltin s (n : Int) = true) :
 (n = 2 ∧ (fO qR s = true ∨ s = ⟨#[61]⟩ ∨ s = ⟨#[92, 61]⟩ ∨ s = ⟨#[61, 61]⟩ ∨ s = ⟨#[105, 115]⟩)) ∨ (n = 0 ∧ (s = ⟨#[116, 114, 117, 101]⟩ ∨ s = ⟨#[102, 97, 105, 108]⟩)) ∨
 (n = 1 ∧ (s = ⟨#[118, 97, 114]⟩ ∨ s = ⟨#[110, 111, 110, 118, 97, 114]⟩ ∨ s = ⟨#[97, 116, 111, 109]⟩ ∨ s = ⟨#[105, 110, 116]⟩)) ∨ (n = 3 ∧ s = ⟨#[97, 114, 103]⟩) := by
 unfold isBuiltin at h
 simp only [cond_eq_ite] at h
 split at h
 · rename_i h1
   left
   refine ⟨by simp at h; omega, ?_⟩
   simp only [q9, bJ] at h1
   simp only [fO, qR, DE, List.any_nil, q9, bJ, jD, d4]
   rcases h1 with (((((((h1 | h1) | h1) | h1) | h1) | h1) | h1) | h1) | h1 <;> simp [h1]
 split at h
 · rename_i h1
   right; left
   refine ⟨by simp at h; omega, ?_⟩
   simpa using h1
 split at h
 · rename_i h1
   right; right; left
   refine ⟨by simp at h; omega, ?_⟩
   simp only [q9, bJ] at h1
   rcases h1 with ((h1 | h1) | h1) | h1 <;> simp [h1]
 split at h
 · rename_i h1
   right; right; right
   exact ⟨by simp at h; omega, by simpa using h1⟩
 · cases h
def dI : AV → List Nat
 | .mslice b _ _ _ => [b]
 | _ => []
def Trail (st : aB) (q : AV) (tr : List Int) : Prop :=
 (q = .fslice [] ∧ tr = []) ∨ ∃ b cs, q = .mslice b 0 tr.length 1 ∧ st b = some (.cells cs) ∧ cs.take tr.length = tr.map iv
structure fT (st : aB) (c m : Nat) (q : AV) (σ : Sub) (tr : List Int) : Prop where
 sub : iM st c m q σ
 eP : Trail st q tr
 apart : c ∉ dI q
structure lP (c m : Nat) (st : aB) (q : AV) (st' : aB) (q' : AV) : Prop where
 frame : ∀ b o, st b = some o → b ≠ c → b ≠ m → b ∉ dI q → st' b = some o
 fresh : ∀ b ∈ dI q', b ∈ dI q ∨ st b = none
def vI (c m : Nat) (st : aB) (q : AV) (σ' : Sub) (tr' : List Int) (st' : aB) : Prop := ∃ q', fT st' c m q' σ' tr' ∧ lP c m st q st' q'
theorem lP.refl (c m : Nat) (st : aB) (q : AV) : lP c m st q st q := ⟨fun _ _ h _ _ _ => h, fun _ h => .inl h⟩
theorem lP.trans {c m : Nat} {st st' vT : aB} {q q' q'' : AV} {σ : Sub} {tr : List Int} (x : lP c m st q st' q') (hS : fT st' c m q' σ tr) (y : lP c m st' q' vT q'') : lP c m st q vT q'' := by
 refine ⟨fun b o h h1 h2 h3 => ?_, fun b hb => ?_⟩
 · refine y.frame b o (x.frame b o h h1 h2 h3) h1 h2 fun h4 => ?_
   rcases x.fresh b h4 with h5 | h5
   · exact h3 h5
   · rw [h5] at h; cases h
 · rcases y.fresh b hb with h | h
   · exact x.fresh b h
   · by_cases h1 : b ∈ dI q
     · exact .inl h1
     · refine .inr ?_
       cases hst : st b with
       | none => rfl
       | some o =>
        exfalso
        by_cases hc : b = c
        · subst hc; rw [hS.sub.cells] at h; cases h
        · by_cases hm : b = m
          · subst hm; rw [hS.sub.map] at h; cases h
          · rw [x.frame b o hst hc hm h1] at h; cases h
theorem fT.GB {st : aB} {c m : Nat} {q : AV} {σ : Sub} {tr : List Int} (h : fT st c m q σ tr) : ∀ b ∈ dI q, ∃ cs, st b = some (.cells cs) := by
 intro b hb
 rcases h.eP with ⟨rfl, _⟩ | ⟨b', cs, rfl, hb', _⟩
 · simp [dI] at hb
 · simp only [dI, cY, dP, d4] at hb; subst hb; exact ⟨cs, hb'⟩
theorem fT.IY {st : aB} {c m : Nat} {q : AV} {σ : Sub} {tr : List Int} (h : fT st c m q σ tr) : m ∉ dI q := fun hb => by
 obtain ⟨cs, e⟩ := h.GB m hb
 rw [h.sub.map] at e; cases e
theorem fT.aC {st : aB} {c m b : Nat} {q : AV} {σ : Sub} {tr : List Int} {o : AO} (h : fT st c m q σ tr) (h1 : b ≠ c) (h2 : b ≠ m) (h3 : b ∉ dI q) : fT (st.aC b o) c m q σ tr := by
 refine ⟨h.sub.HL h1 h2, ?_, h.apart⟩
 rcases h.eP with h4 | ⟨b', cs, e1, e2, e3⟩
 · exact .inl h4
 · refine .inr ⟨b', cs, e1, ?_, e3⟩
   rw [aB.aM _ _ (by rintro rfl; exact h3 (by rw [e1]; simp [dI]))]
   exact e2
theorem fT.BP {st : aB} {c m b : Nat} {q : AV} {σ : Sub} {tr : List Int} {o : AO} (h : fT st c m q σ tr) (hb : st b = none) : fT (st.aC b o) c m q σ tr :=
 h.aC (h.sub.ne hb).1 (h.sub.ne hb).2 fun h3 => by obtain ⟨cs, e⟩ := h.GB b h3; rw [hb] at e; cases e
theorem lP.BP {c m b : Nat} {st : aB} {q : AV} {o : AO} (hb : st b = none) : lP c m st q (st.aC b o) q :=
 ⟨fun x p h _ _ _ => by rw [aB.aM _ _ (by rintro rfl; rw [hb] at h; cases h)]; exact h, fun _ h => .inl h⟩
theorem fT.shape {st : aB} {c m : Nat} {q : AV} {σ : Sub} {tr : List Int} (h : fT st c m q σ tr) : q.isAgg = false ∧ q.width = 1 ∧ q.cB = false ∧ q.cells = [q] ∧ q.storable = true := by
 rcases h.eP with ⟨rfl, _⟩ | ⟨b', cs, rfl, _⟩ <;> exact ⟨rfl, rfl, rfl, rfl, rfl⟩
theorem vI.from {c m : Nat} {st s0 st' : aB} {q q0 : AV} {σ σ' : Sub} {tr tr' : List Int} (h : vI c m s0 q0 σ' tr' st') (x : lP c m st q s0 q0) (hS : fT s0 c m q0 σ tr) : vI c m st q σ' tr' st' := by
 obtain ⟨q', h1, h2⟩ := h
 exact ⟨q', h1, x.trans hS h2⟩
theorem aX8 {P : Program} {t : TypeId} {ag : Bool} {bytes : Nat} {zs : List AV} {st : aB} {c m : Nat} {q : AV} {σ : Sub} {tr : List Int} {n : Int} {K : AV → aB → Prop} (hI : eI P t = some (ag, 1)) (hB : eB P t = some bytes) (hZ : eZ P t = some zs) (hz : zs.length = 1) (hb8 : bytes ≤ 16)
 (h : fT st c m q σ tr) (hl : tr.length + 1 ≤ 1099511627776)
 (hK : ∀ q' st', Trail st' q' (tr ++ [n]) → c ∉ dI q' → m ∉ dI q' → (∀ x, x ∉ dI q → x ∉ dI q' → st' x = st x) → (∀ x ∈ dI q', x ∈ dI q ∨ st x = none) → K q' st') : jO P t st q (.fslice [.int .i64 n]) K := by
 have fY : s8 1 [AV.int .i64 n] := by intro e he; simp only [cY, dP, d4] at he; subst he; exact ⟨rfl, rfl⟩
 have FX : (tr.length + 1) * bytes ≤ 140737488355328 := by
  have := Nat.mul_le_mul hl hb8
  omega
 unfold jO
 simp only [hI, hB, hZ, wH]
 refine ⟨hz, fY, ?_⟩
 have hcm : ∀ x, st x = none → x ≠ c ∧ x ≠ m := fun x hx => h.sub.ne hx
 rcases h.eP with ⟨rfl, rfl⟩ | ⟨b, cs, rfl, hb, hcs⟩
 · simp only [a7, aS, gY] at FX ⊢
   refine ⟨by omega, by omega, by simp, fun h => by simp at h, fun _ b hb => ?_⟩
   refine hK _ _ (.inr ⟨b, [.int .i64 n], rfl, aB.aP _ _ _, rfl⟩) (by simp only [dI, cY, dP, d4]; exact dB (hcm b hb).1) (by simp only [dI, cY, dP, d4]; exact dB (hcm b hb).2) (fun x _ hx => ?_) (fun x hx => ?_)
   · simp only [dI, cY, dP, d4] at hx
     rw [aB.aM _ _ hx]
   · simp only [dI, cY, dP, d4] at hx
     subst hx; exact .inr hb
 · simp only [aS, a7, gY, hb]
   have hlen : tr.length ≤ cs.length := by
    have := n6 List.length hcs
    simp only [d7, aF] at this
    omega
   have hca : c ≠ b := fun e => h.apart (by simp [dI, e])
   have hma : m ≠ b := fun e => h.IY (by simp [dI, e])
   have lJ : cs.take (tr.length * 1) ++ [AV.int .i64 n].flatMap AV.cells = (tr ++ [n]).map iv := by rw [DG, hcs]; simp [AV.cells]
   refine ⟨trivial, FX, by omega, by omega, ?_, fun b' hb' => ?_⟩
   · rw [lJ]
     refine hK _ _ (.inr ⟨b, _, by simp, aB.aP _ _ _, by rw [mR (by simp)]⟩) (by simpa [dI] using hca) (by simpa [dI] using hma) (fun x hx _ => ?_) (fun x hx => .inl hx)
     simp only [dI, cY, dP, d4] at hx
     rw [aB.aM _ _ hx]
   · rw [lJ]
     obtain ⟨hc', hm'⟩ := hcm b' hb'
     refine hK _ _ (.inr ⟨b', _, by simp, aB.aP _ _ _, by rw [mR (by simp)]⟩) (by simpa [dI] using dB hc') (by simpa [dI] using dB hm') (fun x hx hx' => ?_) (fun x hx => ?_)
     · simp only [dI, cY, dP, d4] at hx hx'
       rw [aB.aM _ _ hx']
       simp [aB.erase, hx]
     · simp only [dI, cY, dP, d4] at hx
       subst hx; exact .inr hb'
end Go.AW
namespace Go.AW
open Go.Proofs.Tryz
abbrev yB := zi tI_3 (zi zI_3 (zi aX (zi tI_4 (zi zI_4 (zi cD (zi tI_63 (zi zI_63 (zi bP (zi bQ (zi bT (zi bS (zi bR (zi tI_148 (zi zI_148 (zi tI_181 (zi zI_181 (zi yX (zi tI_183 (zi zI_183 (zi BR (zi AY BQ)))))))))))))))))))))
theorem I2 {σ : Sub} {f : Nat} {t u : Tm} (hw : fQ σ f t u) (c m : Nat) (q : AV) (st : aB) (hS : iM st c m q σ) : aD prog 212 [.ptr c 0, t.av] st (fun r st' => r = u.av ∧ st' = st) := by
 refine aD.done ?_
 refine wF [1000000, 3] 2 func212 ntmps212 rfl rfl ?_
 intro _
 simp -implicitDefEqProofs only [aA, seval, yB]
 intro b3 h3 b4 h4
 have hne : b4 ≠ b3 := by rintro rfl; rw [aB.aP] at h4; cases h4
 have hn4 : st b4 = none := by rw [aB.aM st _ hne] at h4; exact h4
 have hD : ∀ o o', aL ((st.aC b3 o).aC b4 o') st := fun o o' => ((aL.refl _).aC h3).aC hn4
 have hS' : ∀ o o', iM ((st.aC b3 o).aC b4 o') c m q σ := fun o o' => (hS.aC h3).aC (by rw [aB.aM _ _ hne]; exact hn4)
 obtain ⟨aNT, a1Z⟩ := hS.ne h3
 obtain ⟨aSL, a2V⟩ := hS.ne hn4
 refine gZ (σ := Nat × Tm) [1000000, 3] [0, 3, 4] (fun p => fQ σ p.1 p.2 u) (fun p => []) (fun p => (st.aC b3 (.cells p.2.av.cells)).aC b4 (.cells [.int .i64 0, .int .i64 0, .str ⟨#[]⟩, .fslice []])) (fun p => p.1) (by decide +kernel) ⟨(f, t), hw, aO.mk (by simp -implicitDefEqProofs only [aA, seval])⟩ ?_
 rintro ⟨g, t⟩ hw
 obtain ⟨k, n, s, ts⟩ := t
 simp only at hw
 simp only [aV]
 simp -implicitDefEqProofs only [hne.symm, aA, seval, yB]
 refine aQ (fun h => ?_) (fun h => ?_)
 case refine_2 =>
  simp only [dH] at h
  cases hw with
  | go h1 => exact absurd h1 h
  | stop =>
   simp -implicitDefEqProofs only [aK, hne.symm, aA, seval, yB]
   exact ⟨by rw [← aV, Tm.soft], hD _ _⟩
 simp only [bJ] at h
 simp -implicitDefEqProofs only [aA, seval]
 refine wP [(0, 1), (1, 1), (2, 1), (4, 1), (3, 2), (5, 2), (6, 2), (7, 1), (8, 1), (9, 1), (10, 0), (11, 0), (12, 1)] [0, 1, 2, 4, 3, 5, 6, 7, 8, 9, 12] mixed ?_
 have hl := fun (st' : aB) (hm : st' m = some (AO.map (mapOf σ))) => aMP (P := prog) (n := n) hm yX aX aTE
 simp -implicitDefEqProofs only [hne.symm, hS.cells, aNT.symm, aSL.symm, aA, seval, yB]
 rw [hl _ (hS' _ _).map]
 cases hw with
 | stop hs =>
  rw [show σ n = none from hs h]
  simp -implicitDefEqProofs only [found, aK, aA, seval, yB]
  intro b5 h5
  have h53 : b5 ≠ b3 := by rintro rfl; simp [aB.aM, aB.aP, hne.symm] at h5
  have h54 : b5 ≠ b4 := by rintro rfl; simp [aB.aP] at h5
  have hn5 : st b5 = none := by rw [aB.aM _ _ h54, aB.aM _ _ h53] at h5; exact h5
  simp -implicitDefEqProofs only [aK, hne.symm, h53.symm, h54.symm, aA, seval, yB]
  exact ⟨by rw [← aV, Tm.soft], ((((aL.refl _).aC h3).aC hn4).aC hn5).aC hn4⟩
 | go _ h2 h3' =>
  rw [show σ n = some _ from h2]
  simp -implicitDefEqProofs only [found, aK, aA, seval, yB]
  intro b5 h5
  have h53 : b5 ≠ b3 := by rintro rfl; simp [aB.aM, aB.aP, hne.symm] at h5
  have h54 : b5 ≠ b4 := by rintro rfl; simp [aB.aP] at h5
  have hn5 : st b5 = none := by rw [aB.aM _ _ h54, aB.aM _ _ h53] at h5; exact h5
  simp -implicitDefEqProofs only [hne.symm, h53.symm, aA, seval]
  refine ⟨(_, _), K6 _, h3', aO.drop (fun x => ?_) (by simp -implicitDefEqProofs only [aA, seval])⟩
  by_cases e3 : x = b3 <;> by_cases e4 : x = b4 <;> by_cases e5 : x = b5 <;> simp_all [aB.aC]
end Go.AW
