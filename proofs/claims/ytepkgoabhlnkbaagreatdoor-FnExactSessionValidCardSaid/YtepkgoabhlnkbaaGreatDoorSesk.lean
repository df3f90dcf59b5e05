/- Unification comes to an end. -/
import Derived.Test.YtepkgoabhlnkbaaGreatDoorSesj
import Derived.Test.YtepkgoabhlnkbaaGreatDoorSesg
import Derived.Test.YtepkgoabhlnkbaaGreatDoorSesi
set_option linter.unusedSimpArgs false
set_option linter.unusedVariables false
set_option maxRecDepth 100000
namespace Go.AW
theorem unisF_mono (g g' : Nat) (ih : ∀ σ a b x, uniF g σ a b = some x → uniF g' σ a b = some x) : ∀ xs ys σ x, unisF g σ xs ys = some x → unisF g' σ xs ys = some x := by
 intro xs
 induction xs with
 | nil => intro ys σ x h; cases ys <;> simpa only [unisF] using h
 | cons a xs ihx =>
  intro ys σ x h
  cases ys with
  | nil => simpa only [unisF] using h
  | cons b ys =>
   rw [unisF] at h ⊢
   cases h1 : uniF g σ a b with
   | none => rw [h1] at h; cases h
   | some p =>
    rw [h1] at h
    rw [ih _ _ _ _ h1]
    obtain ⟨r1, σ1, tr1⟩ := p
    cases r1 with
    | false => exact h
    | true =>
     simp only at h ⊢
     cases h2 : unisF g σ1 xs ys with
     | none => rw [h2] at h; cases h
     | some p2 => rw [h2] at h; rw [ihx ys σ1 p2 h2]; exact h
theorem uniF_succ : ∀ (g : Nat) σ a b x, uniF g σ a b = some x → uniF (g + 1) σ a b = some x := by
 intro g
 induction g with
 | zero => intro σ a b x h; simp only [uniF] at h; cases h
 | succ g ih =>
  intro σ a b x h
  rw [uniF] at h ⊢
  split
  · rename_i hc; rw [if_pos hc] at h; exact h
  · rename_i hc
    rw [if_neg hc] at h
    split
    · rename_i hc; rw [if_pos hc] at h; exact h
    · rename_i hc
      rw [if_neg hc] at h
      split
      · rename_i hc; rw [if_pos hc] at h; exact h
      · rename_i hc
        rw [if_neg hc] at h
        split
        · rename_i hc; rw [if_pos hc] at h; exact unisF_mono g (g + 1) ih _ _ _ _ h
        · rename_i hc; rw [if_neg hc] at h; exact h
theorem uniF_le {g g' : Nat} (hle : g ≤ g') {σ : Sub} {a b : Tm} {x : Bool × Sub × List Int} (h : uniF g σ a b = some x) : uniF g' σ a b = some x := by
 induction hle with
 | refl => exact h
 | step _ ih => exact uniF_succ _ _ _ _ _ ih
theorem unisF_le {g g' : Nat} (hle : g ≤ g') {σ : Sub} {xs ys : List Tm} {x : Bool × Sub × List Int} (h : unisF g σ xs ys = some x) : unisF g' σ xs ys = some x :=
 unisF_mono g g' (fun _ _ _ _ h => uniF_le hle h) xs ys σ x h
def unb (σ : Sub) (V : List Int) : Nat := V.countP fun v => (σ v).isNone
def InV (V : List Int) (t : Tm) : Prop := ∀ v ∈ t.vl, v ∈ V
def RangeIn (V : List Int) (σ : Sub) : Prop := ∀ n u, σ n = some u → InV V u
theorem unb_lt {σ σ' : Sub} {tr : List Int} {V : List Int} (keep : ∀ m, m ∉ tr → σ' m = σ m) (new : ∀ m ∈ tr, σ m = none ∧ σ' m ≠ none) {m : Int} (hm : m ∈ tr) (hV : m ∈ V) : unb σ' V < unb σ V := by
 have mono : ∀ v, (σ' v).isNone = true → (σ v).isNone = true := fun v h => by
  by_cases hv : v ∈ tr
  · rw [(new v hv).1]; rfl
  · rw [← keep v hv]; exact h
 have le : ∀ W : List Int, unb σ' W ≤ unb σ W := fun W => List.countP_mono_left fun v _ h => mono v h
 unfold unb at *
 induction V with
 | nil => cases hV
 | cons v V ih =>
  simp only [List.countP_cons]
  have hle := le V
  rcases List.mem_cons.1 hV with rfl | hV
  · have h1 : (σ m).isNone = true := by rw [(new m hm).1]; rfl
    have h2 : (σ' m).isNone = false := by
     cases h : σ' m with
     | none => exact absurd h (new m hm).2
     | some _ => rfl
    simp only [h1, h2, if_true, Bool.false_eq_true, if_false]
    omega
  · have := ih hV
    have h3 := mono v
    by_cases h4 : (σ' v).isNone = true
    · rw [if_pos h4, if_pos (h3 h4)]; omega
    · rw [if_neg h4]; split <;> omega
theorem WkN.inV {σ : Sub} {V : List Int} (hr : RangeIn V σ) {f : Nat} {t u : Tm} (h : WkN σ f t u) (ht : InV V t) : InV V u := h.all (p := InV V) (fun n u hu => hr n u hu) ht
theorem InV.kid {V : List Int} {t x : Tm} (h : InV V t) (hk : t.k ≠ 1) (hx : x ∈ t.ts) : InV V x := fun v hv => h v (by cases t; exact (Tm.vl_mk hk).2 ⟨x, hx, hv⟩)
theorem uni_inV : ∀ (g : Nat), (∀ σ a b r σ' tr V, IsGood σ → uniF g σ a b = some (r, σ', tr) → RangeIn V σ → InV V a → InV V b → RangeIn V σ' ∧ ∀ m ∈ tr, m ∈ V) ∧
 ∀ xs ys σ r σ' tr V, IsGood σ → xs.length = ys.length → unisF g σ xs ys = some (r, σ', tr) → RangeIn V σ → (∀ x ∈ xs, InV V x) → (∀ y ∈ ys, InV V y) → RangeIn V σ' ∧ ∀ m ∈ tr, m ∈ V := by
 intro g
 have list : ∀ g, (∀ σ a b r σ' tr V, IsGood σ → uniF g σ a b = some (r, σ', tr) → RangeIn V σ → InV V a → InV V b → RangeIn V σ' ∧ ∀ m ∈ tr, m ∈ V) →
  ∀ xs ys σ r σ' tr V, IsGood σ → xs.length = ys.length → unisF g σ xs ys = some (r, σ', tr) → RangeIn V σ → (∀ x ∈ xs, InV V x) → (∀ y ∈ ys, InV V y) → RangeIn V σ' ∧ ∀ m ∈ tr, m ∈ V := by
  intro g ihU xs
  induction xs with
  | nil =>
   intro ys σ r σ' tr V hg hl h hr _ _
   cases ys with
   | cons _ _ => simp at hl
   | nil =>
    simp only [unisF, Option.some.injEq, Prod.mk.injEq] at h
    obtain ⟨rfl, rfl, rfl⟩ := h
    exact ⟨hr, fun _ h => absurd h (List.not_mem_nil)⟩
  | cons a xs ih =>
   intro ys σ r σ' tr V hg hl h hr hx hy
   cases ys with
   | nil => simp at hl
   | cons b ys =>
    rw [unisF] at h
    cases h1 : uniF g σ a b with
    | none => rw [h1] at h; cases h
    | some p =>
     obtain ⟨r1, σ1, tr1⟩ := p
     have U1 := uniF_uni hg h1
     obtain ⟨i1, i2⟩ := ihU σ a b r1 σ1 tr1 V hg h1 hr (hx a (by simp)) (hy b (by simp))
     rw [h1] at h
     cases r1 with
     | false =>
      simp only [Option.some.injEq, Prod.mk.injEq] at h
      obtain ⟨rfl, rfl, rfl⟩ := h
      exact ⟨i1, i2⟩
     | true =>
      simp only at h
      cases h2 : unisF g σ1 xs ys with
      | none => rw [h2] at h; cases h
      | some p2 =>
       obtain ⟨r2, σ2, tr2⟩ := p2
       rw [h2] at h
       simp only [Option.some.injEq, Prod.mk.injEq] at h
       obtain ⟨rfl, rfl, rfl⟩ := h
       obtain ⟨j1, j2⟩ := ih ys σ1 r2 σ2 tr2 V U1.good (by simpa using hl) h2 i1 (fun x h => hx x (by simp [h])) (fun y h => hy y (by simp [h]))
       exact ⟨j1, fun m hm => (List.mem_append.1 hm).elim (i2 m) (j2 m)⟩
 induction g with
 | zero =>
  have h0 : ∀ σ a b r σ' tr V, IsGood σ → uniF 0 σ a b = some (r, σ', tr) → RangeIn V σ → InV V a → InV V b → RangeIn V σ' ∧ ∀ m ∈ tr, m ∈ V := fun σ a b r σ' tr V hg h => by simp only [uniF] at h; cases h
  exact ⟨h0, list 0 h0⟩
 | succ g ih =>
  suffices hU : ∀ σ a b r σ' tr V, IsGood σ → uniF (g + 1) σ a b = some (r, σ', tr) → RangeIn V σ → InV V a → InV V b → RangeIn V σ' ∧ ∀ m ∈ tr, m ∈ V from ⟨hU, list _ hU⟩
  intro σ a b r σ' tr V hg h hr ha hb
  obtain ⟨_, ihL⟩ := ih
  obtain ⟨rk, B, G⟩ := hg.rs
  obtain ⟨fa, wa⟩ := G.wk a
  obtain ⟨fb, wb⟩ := G.wk b
  have va := wa.inV hr ha
  have vb := wb.inV hr hb
  have bn : ∀ n (t : Tm) r σ' tr, n ∈ V → InV V t → bnd σ n t = (r, σ', tr) → RangeIn V σ' ∧ ∀ m ∈ tr, m ∈ V := by
   intro n t r σ' tr hn ht h
   unfold bnd at h
   split at h <;> cases h
   · exact ⟨hr, fun _ h => absurd h (List.not_mem_nil)⟩
   · refine ⟨fun m u hu => ?_, fun m hm => by simp only [List.mem_cons, List.not_mem_nil, or_false] at hm; rw [hm]; exact hn⟩
     simp only [Sub.set] at hu
     split at hu
     · cases hu; exact ht
     · exact hr m u hu
  rw [uniF] at h
  generalize wk σ a = a at *
  generalize wk σ b = b at *
  split at h
  · simp only [Option.some.injEq, Prod.mk.injEq] at h
    obtain ⟨rfl, rfl, rfl⟩ := h
    exact ⟨hr, fun _ h => absurd h (List.not_mem_nil)⟩
  · split at h
    · rename_i hk
      exact bn _ _ _ _ _ (va _ (by rw [Tm.vl_k1 hk]; simp)) vb (Option.some.inj h)
    · rename_i hka
      split at h
      · rename_i hk
        exact bn _ _ _ _ _ (vb _ (by rw [Tm.vl_k1 hk]; simp)) va (Option.some.inj h)
      · rename_i hkb
        split at h
        · rename_i hh
          exact ihL a.ts b.ts σ r σ' tr V hg (headEq_iff.1 hh).2.2.2 h hr (fun x hx => va.kid hka hx) (fun y hy => vb.kid hkb hy)
        · simp only [Option.some.injEq, Prod.mk.injEq] at h
          obtain ⟨rfl, rfl, rfl⟩ := h
          exact ⟨hr, fun _ h => absurd h (List.not_mem_nil)⟩
def AllS (p : Tm → Prop) (σ : Sub) : Prop := ∀ n u, σ n = some u → p u
theorem uni_all {p : Tm → Prop} (hp : ∀ t : Tm, t.k ≠ 1 → p t → ∀ x ∈ t.ts, p x) : ∀ (g : Nat), (∀ σ a b r σ' tr, IsGood σ → uniF g σ a b = some (r, σ', tr) → AllS p σ → p a → p b → AllS p σ') ∧
 ∀ xs ys σ r σ' tr, IsGood σ → xs.length = ys.length → unisF g σ xs ys = some (r, σ', tr) → AllS p σ → (∀ x ∈ xs, p x) → (∀ y ∈ ys, p y) → AllS p σ' := by
 intro g
 have list : ∀ g, (∀ σ a b r σ' tr, IsGood σ → uniF g σ a b = some (r, σ', tr) → AllS p σ → p a → p b → AllS p σ') →
  ∀ xs ys σ r σ' tr, IsGood σ → xs.length = ys.length → unisF g σ xs ys = some (r, σ', tr) → AllS p σ → (∀ x ∈ xs, p x) → (∀ y ∈ ys, p y) → AllS p σ' := by
  intro g ihU xs
  induction xs with
  | nil =>
   intro ys σ r σ' tr hg hl h hr _ _
   cases ys with
   | cons _ _ => simp at hl
   | nil =>
    simp only [unisF, Option.some.injEq, Prod.mk.injEq] at h
    obtain ⟨rfl, rfl, rfl⟩ := h
    exact hr
  | cons a xs ih =>
   intro ys σ r σ' tr hg hl h hr hx hy
   cases ys with
   | nil => simp at hl
   | cons b ys =>
    rw [unisF] at h
    cases h1 : uniF g σ a b with
    | none => rw [h1] at h; cases h
    | some p =>
     obtain ⟨r1, σ1, tr1⟩ := p
     have U1 := uniF_uni hg h1
     have i1 := ihU σ a b r1 σ1 tr1 hg h1 hr (hx a (by simp)) (hy b (by simp))
     rw [h1] at h
     cases r1 with
     | false =>
      simp only [Option.some.injEq, Prod.mk.injEq] at h
      obtain ⟨rfl, rfl, rfl⟩ := h
      exact i1
     | true =>
      simp only at h
      cases h2 : unisF g σ1 xs ys with
      | none => rw [h2] at h; cases h
      | some p2 =>
       obtain ⟨r2, σ2, tr2⟩ := p2
       rw [h2] at h
       simp only [Option.some.injEq, Prod.mk.injEq] at h
       obtain ⟨rfl, rfl, rfl⟩ := h
       have j1 := ih ys σ1 r2 σ2 tr2 U1.good (by simpa using hl) h2 i1 (fun x h => hx x (by simp [h])) (fun y h => hy y (by simp [h]))
       exact j1
 induction g with
 | zero =>
  have h0 : ∀ σ a b r σ' tr, IsGood σ → uniF 0 σ a b = some (r, σ', tr) → AllS p σ → p a → p b → AllS p σ' := fun σ a b r σ' tr hg h => by simp only [uniF] at h; cases h
  exact ⟨h0, list 0 h0⟩
 | succ g ih =>
  suffices hU : ∀ σ a b r σ' tr, IsGood σ → uniF (g + 1) σ a b = some (r, σ', tr) → AllS p σ → p a → p b → AllS p σ' from ⟨hU, list _ hU⟩
  intro σ a b r σ' tr hg h hr ha hb
  obtain ⟨_, ihL⟩ := ih
  obtain ⟨rk, B, G⟩ := hg.rs
  obtain ⟨fa, wa⟩ := G.wk a
  obtain ⟨fb, wb⟩ := G.wk b
  have va := wa.all hr ha
  have vb := wb.all hr hb
  have bn : ∀ n (t : Tm) r σ' tr, p t → bnd σ n t = (r, σ', tr) → AllS p σ' := by
   intro n t r σ' tr ht h
   unfold bnd at h
   split at h <;> cases h
   · exact hr
   · intro m u hu
     simp only [Sub.set] at hu
     split at hu
     · cases hu; exact ht
     · exact hr m u hu
  rw [uniF] at h
  generalize wk σ a = a at *
  generalize wk σ b = b at *
  split at h
  · simp only [Option.some.injEq, Prod.mk.injEq] at h
    obtain ⟨rfl, rfl, rfl⟩ := h
    exact hr
  · split at h
    · rename_i hk
      exact bn _ _ _ _ _ vb (Option.some.inj h)
    · rename_i hka
      split at h
      · rename_i hk
        exact bn _ _ _ _ _ va (Option.some.inj h)
      · rename_i hkb
        split at h
        · rename_i hh
          exact ihL a.ts b.ts σ r σ' tr hg (headEq_iff.1 hh).2.2.2 h hr (fun x hx => hp _ hka va x hx) (fun y hy => hp _ hkb vb y hy)
        · simp only [Option.some.injEq, Prod.mk.injEq] at h
          obtain ⟨rfl, rfl, rfl⟩ := h
          exact hr
theorem uniF_total (V : List Int) : ∀ (N M : Nat) (σ : Sub) (a b : Tm), IsGood σ → RangeIn V σ → InV V a → InV V b → unb σ V ≤ N → (a.mapv (rs σ)).nodes ≤ M → ∃ g x, uniF g σ a b = some x := by
 intro N
 induction N using Nat.strongRecOn with
 | _ N ihN =>
 intro M
 induction M using Nat.strongRecOn with
 | _ M ihM =>
 intro σ a b hg hr ha hb hN hM
 have list : ∀ (xs ys : List Tm) (σ1 : Sub), xs.length = ys.length → IsGood σ1 → RangeIn V σ1 → (σ1 = σ ∨ unb σ1 V < unb σ V) → (∀ x ∈ xs, InV V x ∧ (x.mapv (rs σ)).nodes < M) → (∀ y ∈ ys, InV V y) → ∃ g x, unisF g σ1 xs ys = some x := by
  intro xs
  induction xs with
  | nil =>
   intro ys σ1 hl _ _ _ _ _
   cases ys with
   | cons _ _ => simp at hl
   | nil => exact ⟨0, (true, σ1, []), by simp only [unisF]⟩
  | cons x xs ih =>
   intro ys σ1 hl hg1 hr1 hc hx hy
   cases ys with
   | nil => simp at hl
   | cons y ys =>
    have h1 : ∃ g p, uniF g σ1 x y = some p := by
     rcases hc with rfl | hlt
     · exact ihM _ (hx x (by simp)).2 σ1 x y hg1 hr1 (hx x (by simp)).1 (hy y (by simp)) hN (Nat.le_refl _)
     · exact ihN (unb σ1 V) (by omega) _ σ1 x y hg1 hr1 (hx x (by simp)).1 (hy y (by simp)) (Nat.le_refl _) (Nat.le_refl _)
    obtain ⟨g1, ⟨r1, σ2, tr1⟩, h1⟩ := h1
    have U1 := uniF_uni hg1 h1
    obtain ⟨i1, i2⟩ := (uni_inV g1).1 σ1 x y r1 σ2 tr1 V hg1 h1 hr1 (hx x (by simp)).1 (hy y (by simp))
    cases r1 with
    | false => exact ⟨g1, (false, σ2, tr1), by rw [unisF, h1]⟩
    | true =>
     have hc2 : σ2 = σ ∨ unb σ2 V < unb σ V := by
      cases htr : tr1 with
      | nil => rw [U1.same htr]; exact hc
      | cons m _ =>
       have := unb_lt (V := V) U1.keep U1.new (m := m) (by rw [htr]; simp) (i2 m (by rw [htr]; simp))
       rcases hc with rfl | hlt
       · exact .inr this
       · exact .inr (Nat.lt_trans this hlt)
     obtain ⟨g2, p2, h2⟩ := ih ys σ2 (by simpa using hl) U1.good i1 hc2 (fun z hz => hx z (by simp [hz])) (fun z hz => hy z (by simp [hz]))
     obtain ⟨r2, σ3, tr2⟩ := p2
     refine ⟨max g1 g2, (r2, σ3, tr1 ++ tr2), ?_⟩
     rw [unisF, uniF_le (Nat.le_max_left g1 g2) h1]
     simp only
     rw [unisF_le (Nat.le_max_right g1 g2) h2]
 obtain ⟨rk, B, G⟩ := hg.rs
 obtain ⟨fa, wa⟩ := G.wk a
 obtain ⟨fb, wb⟩ := G.wk b
 have va := wa.inV hr ha
 have vb := wb.inV hr hb
 have hma := wa.mapv G.isSol
 rw [← hma] at hM
 by_cases h1 : (wk σ a).k = 1 ∧ (wk σ b).k = 1 ∧ (wk σ a).n = (wk σ b).n
 · exact ⟨1, _, by rw [uniF, if_pos h1]⟩
 by_cases h2 : (wk σ a).k = 1
 · exact ⟨1, _, by rw [uniF, if_neg h1, if_pos h2]⟩
 by_cases h3 : (wk σ b).k = 1
 · exact ⟨1, _, by rw [uniF, if_neg h1, if_neg h2, if_pos h3]⟩
 by_cases h4 : headEq (wk σ a) (wk σ b) = true
 · have hkid : ∀ x ∈ (wk σ a).ts, InV V x ∧ (x.mapv (rs σ)).nodes < M := fun x hx => by
    refine ⟨va.kid h2 hx, ?_⟩
    rw [Tm.mapv_k _ h2, Tm.nodes_mk] at hM
    have := sumL_mem (f := Tm.nodes) (List.mem_map.2 ⟨x, hx, rfl⟩ : x.mapv (rs σ) ∈ (wk σ a).ts.map (Tm.mapv (rs σ)))
    omega
   obtain ⟨g, x, h⟩ := list (wk σ a).ts (wk σ b).ts σ (headEq_iff.1 h4).2.2.2 hg hr (.inl rfl) hkid (fun y hy => vb.kid h3 hy)
   exact ⟨g + 1, x, by rw [uniF, if_neg h1, if_neg h2, if_neg h3, if_pos h4]; exact h⟩
 · exact ⟨1, _, by rw [uniF, if_neg h1, if_neg h2, if_neg h3, if_neg h4]⟩
mutual
def Tm.flat : Tm → Nat → Bool
 | .mk _ _ _ _, 0 => false
 | .mk _ _ _ ts, d + 1 => tmsFlat ts d
def tmsFlat : List Tm → Nat → Bool
 | [], _ => true
 | t :: ts, d => t.flat d && tmsFlat ts d
end
theorem tmsFlat_all : ∀ (ts : List Tm) (d : Nat), tmsFlat ts d = ts.all fun t => t.flat d
 | [], _ => rfl
 | t :: ts, d => by simp only [tmsFlat, List.all_cons, tmsFlat_all ts d]
theorem Tm.flat_zero (t : Tm) : t.flat 0 = false := by cases t; simp only [Tm.flat]
theorem Tm.flat_succ (k n : Int) (s : ByteArray) (ts : List Tm) (d : Nat) : (Tm.mk k n s ts).flat (d + 1) = ts.all fun t => t.flat d := by simp only [Tm.flat, tmsFlat_all]
mutual
def Tm.okA : Tm → Bool
 | .mk k n s ts => ownOk k n s ts.length && tmsOkA ts
def tmsOkA : List Tm → Bool
 | [] => true
 | t :: ts => t.okA && tmsOkA ts
end
theorem tmsOkA_all : ∀ (ts : List Tm), tmsOkA ts = ts.all Tm.okA
 | [] => rfl
 | t :: ts => by simp only [tmsOkA, List.all_cons, tmsOkA_all ts]
theorem Tm.okA_mk (k n : Int) (s : ByteArray) (ts : List Tm) : (Tm.mk k n s ts).okA = (ownOk k n s ts.length && ts.all Tm.okA) := by simp only [Tm.okA, tmsOkA_all]
theorem all_and {α : Type} (p q : α → Bool) : ∀ l : List α, (l.all fun x => p x && q x) = (l.all p && l.all q)
 | [] => rfl
 | x :: l => by simp only [List.all_cons, all_and p q l]; cases p x <;> cases q x <;> cases l.all p <;> simp
theorem Tm.shape_flat : ∀ (t : Tm) (d : Nat), t.shape (d : Int) = (t.okA && t.flat d) := by
 intro t
 induction t using Tm.ind with
 | h k n s ts ih =>
  intro d
  cases d with
  | zero => rw [Tm.flat_zero, Bool.and_false, Tm.shape_mk]; rfl
  | succ d =>
   rw [Tm.shape_mk, Tm.okA_mk, Tm.flat_succ, show decide ((1 : Int) ≤ ((d + 1 : Nat) : Int)) = true by simp; omega, Bool.true_and, Bool.and_assoc, ← all_and]
   congr 1
   rw [show (((d + 1 : Nat) : Int) - 1) = (d : Int) by omega]
   have : ∀ l : List Tm, (∀ x ∈ l, x ∈ ts) → (l.all fun t => t.shape (d : Int)) = l.all fun x => x.okA && x.flat d := by
    intro l
    induction l with
    | nil => intro _; rfl
    | cons x l ihl => intro h; rw [List.all_cons, List.all_cons, ih x (h x (by simp)), ihl fun y hy => h y (by simp [hy])]
   exact this ts fun _ h => h
theorem Tm.valid_okA {t : Tm} (h : t.valid = true) : t.okA = true := by
 simp only [Tm.valid, Bool.and_eq_true] at h
 have := h.1
 rw [show (30 : Int) = ((30 : Nat) : Int) from rfl, Tm.shape_flat, Bool.and_eq_true] at this
 exact this.1
theorem Tm.valid_iff {t : Tm} (h : t.okA = true) : t.valid = (t.flat 30 && decide (t.nodes ≤ 120)) := by
 unfold Tm.valid
 rw [show (30 : Int) = ((30 : Nat) : Int) from rfl, Tm.shape_flat, h, Bool.true_and]
theorem Tm.okA_own {k n : Int} {s : ByteArray} {ts : List Tm} (h : (Tm.mk k n s ts).okA = true) : ownOk k n s ts.length = true ∧ ∀ x ∈ ts, x.okA = true := by
 rw [Tm.okA_mk, Bool.and_eq_true] at h
 exact ⟨h.1, List.all_eq_true.1 h.2⟩
theorem ownOk_var {n : Int} {s : ByteArray} {len : Int} (h : ownOk 1 n s len = true) : 0 ≤ n ∧ n ≤ 25 ∧ s = ⟨#[]⟩ ∧ len = 0 := by
 simp [ownOk] at h
 exact ⟨h.1.1.1, h.1.1.2, h.1.2, h.2⟩
theorem ownOk_kind {k n : Int} {s : ByteArray} {len : Int} (h : ownOk k n s len = true) : (k = 1 ∨ k = 2 ∨ k = 3) ∧ len ≤ 4 := by
 unfold ownOk at h
 by_cases h1 : k = 1
 · simp [h1] at h; omega
 · by_cases h2 : k = 2
   · simp [h2] at h; omega
   · by_cases h3 : k = 3
     · simp [h3] at h; omega
     · simp [h1, h2, h3] at h
theorem Tm.okA_cv : ∀ (t : Tm), t.okA = true → t.cv = true := by
 intro t
 induction t using Tm.ind with
 | h k n s ts ih =>
  intro h
  obtain ⟨h1, h2⟩ := Tm.okA_own h
  refine Tm.cv_mk.2 ⟨fun hk => ?_, fun x hx => ih x hx (h2 x hx)⟩
  subst hk
  obtain ⟨_, _, h3, h4⟩ := ownOk_var h1
  exact ⟨h3, List.eq_nil_of_length_eq_zero (by omega)⟩
def V25 : List Int := (List.range 26).map fun i : Nat => (i : Int)
theorem mem_V25 {n : Int} : n ∈ V25 ↔ 0 ≤ n ∧ n ≤ 25 := by
 simp only [V25, List.mem_map, List.mem_range]
 constructor
 · rintro ⟨i, h, rfl⟩; omega
 · intro h; exact ⟨n.toNat, by omega, by omega⟩
theorem Tm.okA_inV : ∀ (t : Tm), t.okA = true → InV V25 t := by
 intro t
 induction t using Tm.ind with
 | h k n s ts ih =>
  intro h v hv
  obtain ⟨h1, h2⟩ := Tm.okA_own h
  by_cases hk : k = 1
  · rw [Tm.vl_var hk] at hv
    simp only [List.mem_cons, List.not_mem_nil, or_false] at hv
    subst hv hk
    obtain ⟨h3, h4, _⟩ := ownOk_var h1
    exact mem_V25.2 ⟨h3, h4⟩
  · obtain ⟨x, hx, hvx⟩ := (Tm.vl_mk hk).1 hv
    exact ih x hx (h2 x hx) v hvx
theorem mapv_okA {f : Int → Tm} : ∀ (t : Tm), t.okA = true → (∀ v ∈ t.vl, (f v).okA = true) → (t.mapv f).okA = true := by
 intro t
 induction t using Tm.ind with
 | h k n s ts ih =>
  intro h hf
  obtain ⟨h1, h2⟩ := Tm.okA_own h
  by_cases hk : k = 1
  · rw [Tm.mapv_var f hk]; exact hf n (by rw [Tm.vl_var hk]; simp)
  · rw [Tm.mapv_mk f hk, Tm.okA_mk, List.length_map, h1, Bool.true_and, List.all_map, List.all_eq_true]
    exact fun x hx => ih x hx (h2 x hx) fun v hv => hf v ((Tm.vl_mk hk).2 ⟨x, hx, hv⟩)
theorem vr_okA {n : Int} (h : n ∈ V25) : (vr n).okA = true := by
 rw [mem_V25] at h
 rw [vr, Tm.okA_mk]
 simp [ownOk, h]
theorem uniF_det {g g' : Nat} {σ : Sub} {a b : Tm} {x y : Bool × Sub × List Int} (h : uniF g σ a b = some x) (h' : uniF g' σ a b = some y) : x = y := by
 have h1 := uniF_le (Nat.le_max_left g g') h
 rw [uniF_le (Nat.le_max_right g g') h'] at h1
 exact (Option.some.inj h1).symm
structure Unif (a b : Tm) (r : Bool) (σ : Sub) (tr : List Int) : Prop where
 run : ∃ g, uniF g Sub.none a b = some (r, σ, tr)
 uni : Uni Sub.none [a] [b] r σ tr
 okA : AllS (fun t => t.okA = true) σ
 inV : RangeIn V25 σ
 trV : ∀ m ∈ tr, m ∈ V25
theorem nodup_len : ∀ {l V : List Int}, l.Nodup → (∀ x ∈ l, x ∈ V) → l.length ≤ V.length
 | [], _, _, _ => Nat.zero_le _
 | x :: l, V, h, hV => by
  rw [List.nodup_cons] at h
  have hx := hV x (by simp)
  have := nodup_len (V := V.erase x) h.2 fun y hy => (List.mem_erase_of_ne (by rintro rfl; exact h.1 hy)).2 (hV y (by simp [hy]))
  rw [List.length_erase_of_mem hx] at this
  have := List.length_pos_of_mem hx
  simp only [List.length_cons]
  omega
structure Fine (a b : Tm) (bs : List Bd) : Prop where
 va : a.valid = true
 vb : b.valid = true
 vs : (bs.all fun x => x.2.valid) = true
 eq : a.mapv (subB bs) = b.mapv (subB bs)
 idem : ∀ x ∈ bs, x.2.mapv (subB bs) = x.2
 sorted : bs.Pairwise fun x y => x.1 < y.1
abbrev zt : AV := .agg [.int .i64 0, .int .i64 0, .str ⟨#[]⟩, .fslice []]
def mapOf (σ : Sub) : Int → Option AV := fun n => (σ n).map Tm.av
def found : Option Tm → AV
 | some u => .tup [u.av, .bool true]
 | none => .tup [zt, .bool false]
theorem look_sub {P : Program} {st : zy7} {m : Nat} {σ : Sub} {t kt et : TypeId} {n : Int} (hm : st m = some (.map (mapOf σ))) (hu : P.underlying t = some (.map kt et)) (hk : P.underlying kt = some (.int .i64)) (hz : zV P et = some zt) :
 aLookup P st t true (.map m) (.int .i64 n) = some (found (σ n)) := by
 unfold aLookup
 simp only [hm, hu, hk, mapOf]
 cases h : σ n with
 | none => simp [hz, found, AV.isJunk]
 | some u => simp [found, Tm.av_junk]
theorem upd_sub {P : Program} {st : zy7} {m : Nat} {σ : Sub} {t kt et : TypeId} {n : Int} {u : Tm} {K : AV → zy7 → Prop} (hm : st m = some (.map (mapOf σ))) (hu : P.underlying t = some (.map kt et)) (hk : P.underlying kt = some (.int .i64))
 (h : K .undef (st.upd m (.map (mapOf (σ.set n u))))) : aMapUpdate P t st (.map m) (.int .i64 n) u.av K := by
 unfold aMapUpdate
 simp only [hu, hm, hk]
 refine ⟨Tm.av_junk u, ?_⟩
 have : mapSet (mapOf σ) n (some u.av) = mapOf (σ.set n u) := by
  funext x
  unfold mapSet mapOf Sub.set
  split <;> rfl
 rw [this]
 exact h
structure SubAt (st : zy7) (c m : Nat) (q : AV) (σ : Sub) : Prop where
 cells : st c = some (.cells [.map m, q])
 map : st m = some (.map (mapOf σ))
theorem SubAt.upd {st : zy7} {c m b : Nat} {q : AV} {σ : Sub} {o : AO} (h : SubAt st c m q σ) (hb : st b = none) : SubAt (st.upd b o) c m q σ :=
 ⟨(by rw [zy7.upd_ne _ _ (by rintro rfl; rw [h.cells] at hb; cases hb)]; exact h.cells), (by rw [zy7.upd_ne _ _ (by rintro rfl; rw [h.map] at hb; cases hb)]; exact h.map)⟩
theorem SubAt.upd2 {st : zy7} {c m b : Nat} {q : AV} {σ : Sub} {o : AO} (h : SubAt st c m q σ) (h1 : b ≠ c) (h2 : b ≠ m) : SubAt (st.upd b o) c m q σ :=
 ⟨(by rw [zy7.upd_ne _ _ (Ne.symm h1)]; exact h.cells), by rw [zy7.upd_ne _ _ (Ne.symm h2)]; exact h.map⟩
theorem SubAt.ne {st : zy7} {c m b : Nat} {q : AV} {σ : Sub} (h : SubAt st c m q σ) (hb : st b = none) : b ≠ c ∧ b ≠ m := ⟨(by rintro rfl; rw [h.cells] at hb; cases hb), (by rintro rfl; rw [h.map] at hb; cases hb)⟩
theorem SubAt.cm {st : zy7} {c m : Nat} {q : AV} {σ : Sub} (h : SubAt st c m q σ) : c ≠ m := by rintro rfl; have := h.cells; rw [h.map] at this; cases this
def metOf (M : List Int) : Int → Option AV := fun x => if x ∈ M then some (.bool true) else none
theorem look_met {P : Program} {st : zy7} {mm : Nat} {M : List Int} {t kt et : TypeId} {n : Int} (hm : st mm = some (.map (metOf M))) (hu : P.underlying t = some (.map kt et)) (hk : P.underlying kt = some (.int .i64)) (hz : zV P et = some (.bool false)) :
 aLookup P st t false (.map mm) (.int .i64 n) = some (.bool (decide (n ∈ M))) := by
 unfold aLookup
 simp only [hm, hu, hk, metOf]
 by_cases h : n ∈ M
 · simp [h, AV.isJunk]
 · simp [h, hz, AV.isJunk]
theorem upd_met {P : Program} {st : zy7} {mm : Nat} {M : List Int} {t kt et : TypeId} {n : Int} {K : AV → zy7 → Prop} (hm : st mm = some (.map (metOf M))) (hu : P.underlying t = some (.map kt et)) (hk : P.underlying kt = some (.int .i64))
 (h : K .undef (st.upd mm (.map (metOf (n :: M))))) : aMapUpdate P t st (.map mm) (.int .i64 n) (.bool true) K := by
 unfold aMapUpdate
 simp only [hu, hm, hk]
 refine ⟨rfl, ?_⟩
 have : mapSet (metOf M) n (some (.bool true)) = metOf (n :: M) := by
  funext x
  unfold mapSet metOf
  by_cases e : x = n
  · simp [e]
  · simp [e]
 rw [this]
 exact h
theorem metOf_nil : metOf [] = fun _ => none := by funext x; simp [metOf]
theorem vars_spec (t : Tm) : t.wf = true → ∀ l : List Int, (∀ v, v ∈ t.vars l ↔ v ∈ l ∨ v ∈ t.vl) ∧ (l.Nodup → (t.vars l).Nodup) ∧ ∃ m, t.vars l = l ++ m := by
 induction t using Tm.ind with
 | h k n s ts ih =>
  intro h l
  obtain ⟨hk, hw⟩ := Tm.wf_mk h
  have list : ∀ xs : List Tm, (∀ x ∈ xs, x ∈ ts) → ∀ l : List Int, (∀ v, v ∈ tmsVars xs l ↔ v ∈ l ∨ ∃ x ∈ xs, v ∈ x.vl) ∧ (l.Nodup → (tmsVars xs l).Nodup) ∧ ∃ m, tmsVars xs l = l ++ m := by
   intro xs
   induction xs with
   | nil => intro _ l; exact ⟨by simp [tmsVars], fun h => h, [], by simp [tmsVars]⟩
   | cons x xs ihx =>
    intro hs l
    obtain ⟨a1, a2, m1, a3⟩ := ih x (hs x (by simp)) (hw x (hs x (by simp))) l
    obtain ⟨b1, b2, m2, b3⟩ := ihx (fun y hy => hs y (by simp [hy])) (x.vars l)
    simp only [tmsVars]
    refine ⟨fun v => ?_, fun hn => b2 (a2 hn), m1 ++ m2, by rw [b3, a3, List.append_assoc]⟩
    rw [b1, a1]
    simp [or_assoc]
  rw [Tm.vars]
  by_cases hk1 : k = 1
  · obtain rfl := hk hk1
    rw [Tm.vl_var hk1]
    simp only [tmsVars]
    split
    · rename_i hc
      refine ⟨fun v => by simp, fun hn => ?_, [n], rfl⟩
      rw [List.nodup_append]
      refine ⟨hn, by simp, fun x hx y hy e => ?_⟩
      simp only [List.mem_cons, List.not_mem_nil, or_false] at hy
      subst hy e
      exact hc.2 hx
    · rename_i hc
      refine ⟨fun v => ?_, fun hn => hn, [], by simp⟩
      have hm : n ∈ l := Classical.byContradiction fun h => hc ⟨hk1, h⟩
      simp only [List.mem_cons, List.not_mem_nil, or_false]
      exact ⟨.inl, fun h => h.elim id fun e => e ▸ hm⟩
  · rw [if_neg (by simp [hk1])]
    obtain ⟨c1, c2, c3⟩ := list ts (fun _ h => h) l
    exact ⟨fun v => by rw [c1, Tm.vl_mk hk1], c2, c3⟩
theorem Tm.vars_mem {v : Int} : ∀ (t : Tm) (l : List Int), t.cv = true → (v ∈ t.vars l ↔ v ∈ l ∨ v ∈ t.vl) := by
 intro t
 induction t using Tm.ind with
 | h k n s ts ih =>
  intro l hcv
  obtain ⟨h1, h2⟩ := Tm.cv_mk.1 hcv
  have key : ∀ (ts : List Tm) (l : List Int), (∀ t ∈ ts, ∀ l, v ∈ t.vars l ↔ v ∈ l ∨ v ∈ t.vl) → (v ∈ tmsVars ts l ↔ v ∈ l ∨ ∃ t ∈ ts, v ∈ t.vl) := by
   intro ts
   induction ts with
   | nil => intro l _; simp [tmsVars]
   | cons t ts iht =>
    intro l h
    simp only [tmsVars]
    rw [iht _ (fun x hx => h x (by simp [hx])), h t (by simp)]
    simp [or_assoc]
  simp only [Tm.vars]
  rw [key ts _ (fun t ht l => ih t ht l (h2 t ht))]
  by_cases hk : k = 1
  · obtain ⟨rfl, rfl⟩ := h1 hk
    rw [Tm.vl_var hk]
    by_cases hn : n ∈ l
    · simp [hk, hn]; exact fun e => e ▸ hn
    · simp [hk, hn]
  · rw [Tm.vl_mk hk]; simp [hk]
theorem tmsVars_mem {v : Int} : ∀ (ts : List Tm) (l : List Int), (∀ t ∈ ts, t.cv = true) → (v ∈ tmsVars ts l ↔ v ∈ l ∨ ∃ t ∈ ts, v ∈ t.vl)
 | [], l, _ => by simp [tmsVars]
 | t :: ts, l, h => by
  simp only [tmsVars]
  rw [tmsVars_mem ts _ (fun x hx => h x (by simp [hx])), Tm.vars_mem t l (h t (by simp))]
  simp [or_assoc]
theorem within_no {σ : Sub} {R : Int → Tm} {rk : Int → Nat} {B : Nat} (G : Good σ R rk B) {n : Int} {W : List Int} (hW : ∀ w ∈ W, w ≠ n ∧ ∀ u, σ w = some u → ∀ v ∈ u.vl, v ∈ W) : ∀ w ∈ W, n ∉ (R w).vl := by
 refine fun w => G.ind (p := fun w => w ∈ W → n ∉ (R w).vl) (fun w h hw hm => ?_) (fun w u h ih hw hm => ?_) w
 · rw [G.free h, vl_vr] at hm
   simp only [List.mem_cons, List.not_mem_nil, or_false] at hm
   exact (hW w hw).1 hm.symm
 · rw [G.bound h] at hm
   obtain ⟨v, hv, hnv⟩ := (vl_mapv u).1 hm
   exact ih v hv ((hW w hw).2 u h v hv) hnv
theorem flat_mid {w : Nat} {l : List AV} {i : Nat} {e : AV} (hw : ∀ e ∈ l, e.width = w) (h : l[i]? = some e) :
 ∃ A B, l.flatMap AV.cells = A ++ e.cells ++ B ∧ A.length = i * w ∧ ∀ e', (l.set i e').flatMap AV.cells = A ++ e'.cells ++ B := by
 obtain ⟨hi, he⟩ := List.getElem?_eq_some_iff.1 h
 refine ⟨(l.take i).flatMap AV.cells, (l.drop (i + 1)).flatMap AV.cells, ?_, ?_, fun e' => ?_⟩
 · have : l = l.take i ++ e :: l.drop (i + 1) := by rw [← he, ← List.drop_eq_getElem_cons hi, List.take_append_drop]
   conv => lhs; rw [this]
   simp
 · rw [flat_length (fun e he => hw e (List.mem_of_mem_take he)), List.length_take, Nat.min_eq_left (by omega)]
 · rw [List.set_eq_take_append_cons_drop, if_pos hi]
   simp
def cellOf : Option Tm → AV
 | some u => u.av
 | none => zt
theorem cellOf_width (o : Option Tm) : (cellOf o).width = 4 := by cases o <;> first | rfl | exact Tm.av_width _
theorem cellOf_cells (o : Option Tm) : (cellOf o).cells.length = 4 := by rw [cells_width, cellOf_width]
theorem mapv_id : ∀ t : Tm, t.cv = true → t.mapv vr = t := by
 intro t
 induction t using Tm.ind with
 | h k n s ts ih =>
  intro h
  obtain ⟨h1, h2⟩ := Tm.cv_mk.1 h
  by_cases hk : k = 1
  · obtain ⟨rfl, rfl⟩ := h1 hk
    rw [Tm.mapv_var vr hk, hk]; rfl
  · rw [Tm.mapv_mk vr hk]
    congr 1
    have : ∀ l : List Tm, (∀ x ∈ l, x ∈ ts) → l.map (Tm.mapv vr) = l := by
     intro l
     induction l with
     | nil => intro _; rfl
     | cons x l ihl => intro hl; rw [List.map_cons, ih x (hl x (by simp)) (h2 x (hl x (by simp))), ihl fun y hy => hl y (by simp [hy])]
    exact this ts fun _ h => h
def renumL (l : List Tm) : List Tm := l.map fun t => t.mapv fun v => vr (idxI v (tmsVars l []) 0)
theorem vars_map {D : Int → Prop} {h : Int → Int} (inj : ∀ v w, D v → D w → h v = h w → v = w) {f : Int → Tm} (hf : ∀ v, D v → f v = vr (h v)) :
 ∀ (t : Tm), t.wf = true → (∀ v ∈ t.vl, D v) → ∀ l : List Int, (∀ v ∈ l, D v) → (t.mapv f).vars (l.map h) = (t.vars l).map h ∧ ∀ v ∈ t.vars l, D v := by
 intro t
 induction t using Tm.ind with
 | h k n s ts ih =>
  intro hw hD l hl
  obtain ⟨hk1, hws⟩ := Tm.wf_mk hw
  by_cases hk : k = 1
  · obtain rfl := hk1 hk
    have hDn : D n := hD n (by rw [Tm.vl_var hk]; simp)
    have hmem : h n ∈ l.map h ↔ n ∈ l := by
     rw [List.mem_map]
     exact ⟨fun ⟨m, hm, e⟩ => by rw [← inj m n (hl m hm) hDn e]; exact hm, fun hm => ⟨n, hm, rfl⟩⟩
    rw [Tm.mapv_var f hk, hf n hDn, vr, Tm.vars, Tm.vars]
    simp only [tmsVars, hk, true_and, hmem]
    split
    · exact ⟨by simp, fun v hv => by
       rcases List.mem_append.1 hv with hv | hv
       · exact hl v hv
       · simp only [List.mem_cons, List.not_mem_nil, or_false] at hv; rw [hv]; exact hDn⟩
    · exact ⟨rfl, hl⟩
  · rw [Tm.mapv_mk f hk, Tm.vars, Tm.vars, if_neg (fun h => hk h.1), if_neg (fun h => hk h.1)]
    have : ∀ xs : List Tm, (∀ x ∈ xs, x ∈ ts) → ∀ l : List Int, (∀ v ∈ l, D v) → tmsVars (xs.map (Tm.mapv f)) (l.map h) = (tmsVars xs l).map h ∧ ∀ v ∈ tmsVars xs l, D v := by
     intro xs
     induction xs with
     | nil => intro _ l hl; exact ⟨rfl, hl⟩
     | cons x xs ihx =>
      intro hs l hl
      have hx := hs x (by simp)
      obtain ⟨e1, e2⟩ := ih x hx (hws x hx) (fun v hv => hD v ((Tm.vl_mk hk).2 ⟨x, hx, hv⟩)) l hl
      simp only [List.map_cons, tmsVars]
      rw [e1]
      exact ihx (fun y hy => hs y (by simp [hy])) _ e2
    exact this ts (fun _ h => h) l hl
theorem idxI_map {D : Int → Prop} {h : Int → Int} (inj : ∀ v w, D v → D w → h v = h w → v = w) (v : Int) (hv : D v) : ∀ (l : List Int) (i : Int), (∀ w ∈ l, D w) → idxI (h v) (l.map h) i = idxI v l i
 | [], i, _ => rfl
 | x :: l, i, hl => by
  simp only [List.map_cons, idxI]
  by_cases e : v = x
  · rw [if_pos e, if_pos (by rw [e])]
  · rw [if_neg e, if_neg (fun e2 => e (inj v x hv (hl x (by simp)) e2))]
    exact idxI_map inj v hv l (i + 1) fun w hw => hl w (by simp [hw])
def arNames : List ByteArray := [⟨#[43]⟩, ⟨#[45]⟩, ⟨#[42]⟩, ⟨#[47, 47]⟩, ⟨#[109, 111, 100]⟩]
def cmpNames : List ByteArray := [⟨#[60]⟩, ⟨#[62]⟩, ⟨#[61, 60]⟩, ⟨#[62, 61]⟩, ⟨#[61, 58, 61]⟩]
def inN (l : List ByteArray) (s : ByteArray) : Bool := l.any fun x => decide (s = x)
def ranged (n : Int) : Int × Int := if -999 ≤ n ∧ n ≤ 999 then (n, 0) else (0, 5)
def fmodI (a b : Int) : Int := if a.tmod b ≠ 0 ∧ decide (a.tmod b < 0) ≠ decide (b < 0) then a.tmod b + b else a.tmod b
def arOp (s : ByteArray) (a b : Int) : Int × Int :=
 if s = ⟨#[43]⟩ then ranged (a + b) else if s = ⟨#[45]⟩ then ranged (a - b) else if s = ⟨#[42]⟩ then ranged (a * b) else if b = 0 then (0, 4) else if s = ⟨#[109, 111, 100]⟩ then (fmodI a b, 0) else (a.tdiv b, 0)
def both (f : Int → Int → Int × Int) (x y : Int × Int) : Int × Int := if x.2 ≠ 0 then (0, x.2) else if y.2 ≠ 0 then (0, y.2) else f x.1 y.1
def two (f : Int → Int → Int × Int) : List (Int × Int) → Int × Int
 | [x, y] => both f x y
 | _ => (0, 3)
mutual
def Tm.ev : Tm → Int × Int
 | .mk k n s ts => if k = 2 then (n, 0) else if k = 1 then (0, 2) else if inN arNames s = true then two (arOp s) (tmsEv ts) else (0, 3)
def tmsEv : List Tm → List (Int × Int)
 | [] => []
 | t :: ts => t.ev :: tmsEv ts
end
theorem tmsEv_map : ∀ ts : List Tm, tmsEv ts = ts.map Tm.ev
 | [] => rfl
 | t :: ts => by simp only [tmsEv, List.map_cons, tmsEv_map ts]
theorem Tm.ev_mk (k n : Int) (s : ByteArray) (ts : List Tm) : (Tm.mk k n s ts).ev = if k = 2 then (n, 0) else if k = 1 then (0, 2) else if inN arNames s = true then two (arOp s) (ts.map Tm.ev) else (0, 3) := by simp only [Tm.ev, tmsEv_map]
theorem tmod_lt (a b : Int) (hb : b ≠ 0) : (0 < b → -b < a.tmod b ∧ a.tmod b < b) ∧ (b < 0 → b < a.tmod b ∧ a.tmod b < -b) := by
 have h1 := Int.tmod_lt_of_pos (-a) (b := b)
 have h2 := Int.tmod_lt_of_pos a (b := b)
 have h3 := Int.tmod_lt_of_pos (-a) (b := -b)
 have h4 := Int.tmod_lt_of_pos a (b := -b)
 rw [Int.tmod_neg] at h3 h4
 rw [Int.neg_tmod] at h1 h3
 constructor
 · intro h; exact ⟨by have := h1 h; omega, h2 h⟩
 · intro h; exact ⟨by have := h3 (by omega); omega, h4 (by omega)⟩
theorem tdiv_le (a b : Int) (ha : -999 ≤ a ∧ a ≤ 999) : -999 ≤ a.tdiv b ∧ a.tdiv b ≤ 999 := by
 have : (a.tdiv b).natAbs ≤ a.natAbs := by rw [Int.natAbs_tdiv]; exact Nat.div_le_self _ _
 omega
theorem ranged_le (n : Int) : -999 ≤ (ranged n).1 ∧ (ranged n).1 ≤ 999 := by unfold ranged; split <;> simp_all
theorem fmodI_le (a b : Int) (ha : -999 ≤ a ∧ a ≤ 999) (hb : -999 ≤ b ∧ b ≤ 999) (h0 : b ≠ 0) : -999 ≤ fmodI a b ∧ fmodI a b ≤ 999 := by
 have h1 := tmod_lt a b h0
 unfold fmodI
 split
 · rename_i h
   have h2 := h.2
   by_cases hb' : b < 0
   · have : ¬ a.tmod b < 0 := by intro hc; simp [hb', hc] at h2
     have := h1.2 hb'
     omega
   · have : a.tmod b < 0 := by
      apply Classical.byContradiction; intro hc; simp [hb', hc] at h2
     have := h1.1 (by omega)
     omega
 · rcases Int.lt_or_gt_of_ne h0 with h | h
   · have := h1.2 h; omega
   · have := h1.1 h; omega
theorem add_tmod_aux (m b : Int) (h1 : 0 ≤ m) (h2 : m < b) : (m + b).tmod b = m := by
 obtain ⟨x, rfl⟩ : ∃ x : Nat, m = x := ⟨m.toNat, by omega⟩
 obtain ⟨y, rfl⟩ : ∃ y : Nat, b = y := ⟨b.toNat, by omega⟩
 rw [show (x : Int) + (y : Int) = ((x + y : Nat) : Int) by omega, ← Int.ofNat_tmod, Nat.add_mod_right, Nat.mod_eq_of_lt (by omega)]
theorem fmodI_eq (a b : Int) (h0 : b ≠ 0) : (a.tmod b + b).tmod b = fmodI a b := by
 have h1 := tmod_lt a b h0
 have hs : ∀ x : Int, 0 ≤ x → x < b → x.tmod b = x := fun x h2 h3 => Int.tmod_eq_of_lt h2 h3
 have hn : ∀ x : Int, x ≤ 0 → b < x → x.tmod b = x := fun x h2 h3 => by
  have := Int.tmod_eq_of_lt (a := -x) (b := -b) (by omega) (by omega)
  rw [Int.tmod_neg, Int.neg_tmod] at this
  omega
 unfold fmodI
 generalize a.tmod b = m at *
 by_cases hb : b < 0
 · have h2 := h1.2 hb
   by_cases hm : m < 0
   · rw [if_neg (by simp [hb, hm])]
     rw [show m + b = b + m by omega]
     have e : (b + m).tmod b = ((-b) + (-m)).tmod (-b) * (-1) := by
      rw [show (-b) + (-m) = -(b + m) by omega, Int.neg_tmod, Int.tmod_neg]; omega
     rw [e, Int.add_comm, add_tmod_aux (-m) (-b) (by omega) (by omega)]
     omega
   · by_cases hm0 : m = 0
     · subst hm0; rw [if_neg (by simp), Int.zero_add, Int.tmod_self]
     · rw [if_pos ⟨hm0, by simp [hb, hm]⟩]
       exact hn _ (by omega) (by omega)
 · have h2 := h1.1 (by omega)
   by_cases hm : m < 0
   · rw [if_pos ⟨by omega, by simp [hb, hm]⟩]
     exact hs _ (by omega) (by omega)
   · rw [if_neg (by simp [hb, hm])]
     rw [add_tmod_aux m b (by omega) (by omega)]
def OkV (N : Int) (t : Tm) : Prop := (t.mapv fun _ => vr 0).okA = true ∧ t.cv = true ∧ ∀ v ∈ t.vl, 0 ≤ v ∧ v < N
theorem OkV.mono {N M : Int} {t : Tm} (h : OkV N t) (hm : N ≤ M) : OkV M t := ⟨h.1, h.2.1, fun v hv => ⟨(h.2.2 v hv).1, by have := (h.2.2 v hv).2; omega⟩⟩
theorem OkV.own {N k n : Int} {s : ByteArray} {ts : List Tm} (h : OkV N (.mk k n s ts)) (hk : k ≠ 1) : ownOk k n s ts.length = true ∧ ∀ x ∈ ts, OkV N x := by
 obtain ⟨h1, h2, h3⟩ := h
 rw [Tm.mapv_mk _ hk] at h1
 obtain ⟨h4, h5⟩ := Tm.okA_own h1
 rw [List.length_map] at h4
 exact ⟨h4, fun x hx => ⟨h5 _ (List.mem_map.2 ⟨x, hx, rfl⟩), (Tm.cv_mk.1 h2).2 x hx, fun v hv => h3 v ((Tm.vl_mk hk).2 ⟨x, hx, hv⟩)⟩⟩
theorem OkV.var {N n : Int} {s : ByteArray} {ts : List Tm} (h : OkV N (.mk 1 n s ts)) : 0 ≤ n ∧ n < N ∧ s = ⟨#[]⟩ ∧ ts = [] := by
 obtain ⟨_, h2, h3⟩ := h
 obtain ⟨h4, h5⟩ := (Tm.cv_mk.1 h2).1 rfl
 obtain ⟨h6, h7⟩ := h3 n (by rw [Tm.vl_var rfl]; simp)
 exact ⟨h6, h7, h4, h5⟩
theorem okV_kids (N : Int) : ∀ t : Tm, t.k ≠ 1 → OkV N t → ∀ x ∈ t.ts, OkV N x := fun t hk h x hx => by
 cases t
 exact (h.own hk).2 x hx
theorem OkV.kind {N k n : Int} {s : ByteArray} {ts : List Tm} (h : OkV N (.mk k n s ts)) : (k = 1 ∨ k = 2 ∨ k = 3) ∧ ts.length ≤ 4 := by
 by_cases hk : k = 1
 · subst hk
   rw [h.var.2.2.2]
   simp
 · have := ownOk_kind (h.own hk).1
   omega
theorem ownOk_int' {n : Int} {s : ByteArray} {len : Int} (h : ownOk 2 n s len = true) : -999 ≤ n ∧ n ≤ 999 := by
 simp [ownOk] at h
 omega
theorem OkV.all {N k n : Int} {s : ByteArray} {ts : List Tm} (h : OkV N (.mk k n s ts)) : (k = 2 → -999 ≤ n ∧ n ≤ 999) ∧ ∀ x ∈ ts, OkV N x := by
 by_cases hk : k = 1
 · subst hk
   rw [h.var.2.2.2]
   simp
 · obtain ⟨h1, h2⟩ := h.own hk
   refine ⟨fun h2 => ?_, h2⟩
   subst h2
   exact ownOk_int' h1
theorem OkV.small {N : Int} : ∀ {t : Tm}, OkV N t → t.small = true := by
 intro t
 induction t using Tm.ind with
 | h k n s ts ih =>
  intro h
  have h4 := h.kind.2
  simp only [Tm.small, tmsSmall_all, Bool.and_eq_true, decide_eq_true_eq, List.all_eq_true]
  refine ⟨by omega, fun x hx => ?_⟩
  by_cases hk : k = 1
  · subst hk; rw [h.var.2.2.2] at hx; cases hx
  · exact ih x hx ((h.own hk).2 x hx)
theorem OkV.mapv {N M : Int} {f : Int → Tm} {t : Tm} (h : OkV N t) (hf : ∀ v ∈ t.vl, OkV M (f v)) : OkV M (t.mapv f) := by
 induction t using Tm.ind with
 | h k n s ts ih =>
  by_cases hk : k = 1
  · rw [Tm.mapv_var f hk]; exact hf n (by rw [Tm.vl_var hk]; simp)
  · obtain ⟨h1, h2⟩ := h.own hk
    have key : ∀ x ∈ ts, OkV M (x.mapv f) := fun x hx => ih x hx (h2 x hx) fun v hv => hf v ((Tm.vl_mk hk).2 ⟨x, hx, hv⟩)
    rw [Tm.mapv_mk f hk]
    refine ⟨?_, Tm.cv_mk.2 ⟨fun h => absurd h hk, fun y hy => ?_⟩, fun v hv => ?_⟩
    · rw [Tm.mapv_mk _ hk, Tm.okA_mk, List.length_map, List.length_map, h1, Bool.true_and, List.all_eq_true]
      intro y hy
      simp only [List.map_map, List.mem_map, Function.comp_apply] at hy
      obtain ⟨x, hx, rfl⟩ := hy
      exact (key x hx).1
    · obtain ⟨x, hx, rfl⟩ := List.mem_map.1 hy
      exact (key x hx).2.1
    · obtain ⟨y, hy, hv⟩ := (Tm.vl_mk hk).1 hv
      obtain ⟨x, hx, rfl⟩ := List.mem_map.1 hy
      exact (key x hx).2.2 v hv
theorem okV_vr {N n : Int} (h0 : 0 ≤ n) (h1 : n < N) : OkV N (vr n) := by
 refine ⟨by rw [mapv_vr]; exact vr_okA (mem_V25.2 (by omega)), Tm.cv_mk.2 ⟨fun _ => ⟨rfl, rfl⟩, by simp⟩, fun v hv => ?_⟩
 rw [vl_vr] at hv
 simp only [List.mem_cons, List.not_mem_nil, or_false] at hv
 omega
theorem okV_26 {t : Tm} : t.okA = true ↔ OkV 26 t := by
 constructor
 · intro h
   refine ⟨mapv_okA t h fun v _ => vr_okA (mem_V25.2 (by omega)), Tm.okA_cv t h, fun v hv => ?_⟩
   have := mem_V25.1 (Tm.okA_inV t h v hv)
   omega
 · induction t using Tm.ind with
   | h k n s ts ih =>
    intro h
    rw [Tm.okA_mk]
    by_cases hk : k = 1
    · subst hk
      obtain ⟨h0, h1, rfl, rfl⟩ := h.var
      have h1' : n ≤ 25 := by omega
      simp [ownOk, h0, h1']
    · obtain ⟨h1, h2⟩ := h.own hk
      rw [h1, Bool.true_and, List.all_eq_true]
      exact fun x hx => ih x hx (h2 x hx)
theorem Tm.valid_okV {t : Tm} (h : t.valid = true) : OkV 26 t := okV_26.1 (Tm.valid_okA h)
theorem Good.okV {σ : Sub} {R : Int → Tm} {rk : Int → Nat} {B : Nat} (G : Good σ R rk B) {N : Int} (ho : AllS (OkV N) σ) : ∀ n, 0 ≤ n → n < N → OkV N (R n) := by
 refine fun n => G.ind (p := fun n => 0 ≤ n → n < N → OkV N (R n)) (fun n h h0 h1 => ?_) (fun n u h ih h0 h1 => ?_) n
 · rw [G.free h]; exact okV_vr h0 h1
 · rw [G.bound h]
   exact (ho n u h).mapv fun v hv => ih v hv ((ho n u h).2.2 v hv).1 ((ho n u h).2.2 v hv).2
theorem Good.okVT {σ : Sub} {R : Int → Tm} {rk : Int → Nat} {B : Nat} (G : Good σ R rk B) {N : Int} (ho : AllS (OkV N) σ) {t : Tm} (h : OkV N t) : OkV N (t.mapv R) :=
 h.mapv fun v hv => G.okV ho v (h.2.2 v hv).1 (h.2.2 v hv).2
def OkX (N : Int) (t : Tm) : Prop := OkV N t ∧ t.nodes ≤ 120
theorem okX_kids (N : Int) : ∀ t : Tm, t.k ≠ 1 → OkX N t → ∀ x ∈ t.ts, OkX N x := fun t hk h x hx => by
 refine ⟨okV_kids N t hk h.1 x hx, ?_⟩
 have h2 := h.2
 cases t
 rw [Tm.nodes_mk] at h2
 have := sumL_mem (f := Tm.nodes) hx
 simp only [Tm.ts] at this
 omega
theorem OkX.mono {N M : Int} {t : Tm} (h : OkX N t) (hm : N ≤ M) : OkX M t := ⟨h.1.mono hm, h.2⟩
theorem AllS.okV {N : Int} {σ : Sub} (h : AllS (OkX N) σ) : AllS (OkV N) σ := fun n u e => (h n u e).1
theorem AllS.imp {p q : Tm → Prop} {σ : Sub} (h : AllS p σ) (hpq : ∀ t, p t → q t) : AllS q σ := fun n u e => hpq u (h n u e)
open Classical in
noncomputable def uniG (σ : Sub) (a b : Tm) : Bool × Sub × List Int := if h : ∃ x g, uniF g σ a b = some x then h.choose else (false, σ, [])
theorem uniG_eq {g : Nat} {σ : Sub} {a b : Tm} {x : Bool × Sub × List Int} (h : uniF g σ a b = some x) : uniG σ a b = x := by
 unfold uniG
 have h' : ∃ x g, uniF g σ a b = some x := ⟨x, g, h⟩
 rw [dif_pos h']
 obtain ⟨g', h''⟩ := h'.choose_spec
 exact uniF_det h'' h
def VN (N : Nat) : List Int := (List.range N).map fun i : Nat => (i : Int)
theorem mem_VN {N : Nat} {n : Int} : n ∈ VN N ↔ 0 ≤ n ∧ n < N := by
 simp only [VN, List.mem_map, List.mem_range]
 constructor
 · rintro ⟨i, h, rfl⟩; omega
 · intro h; exact ⟨n.toNat, by omega, by omega⟩
theorem nodup_VN {N : Nat} {tr : List Int} (h : tr.Nodup) (hV : ∀ m ∈ tr, 0 ≤ m ∧ m < N) : tr.length ≤ N := by
 have := nodup_len (V := VN N) h fun x hx => mem_VN.2 (hV x hx)
 simpa [VN] using this
structure UniG (N : Int) (σ : Sub) (a b : Tm) (r : Bool) (σ' : Sub) (tr : List Int) : Prop where
 run : ∃ g, uniF g σ a b = some (r, σ', tr)
 eq : uniG σ a b = (r, σ', tr)
 uni : Uni σ [a] [b] r σ' tr
 ok : AllS (OkX N) σ'
 inN : ∀ m ∈ tr, 0 ≤ m ∧ m < N
theorem uniG_of {N : Nat} {σ : Sub} {a b : Tm} (hg : IsGood σ) (ho : AllS (OkX N) σ) (ha : OkX N a) (hb : OkX N b) : ∃ r σ' tr, UniG N σ a b r σ' tr := by
 have hin : ∀ {t : Tm}, OkX N t → InV (VN N) t := fun h v hv => mem_VN.2 (h.1.2.2 v hv)
 have hr : RangeIn (VN N) σ := fun n u e => hin (ho n u e)
 obtain ⟨g, ⟨r, σ', tr⟩, h⟩ := uniF_total (VN N) _ _ σ a b hg hr (hin ha) (hin hb) (Nat.le_refl _) (Nat.le_refl _)
 obtain ⟨h1, h2⟩ := (uni_inV g).1 σ a b r σ' tr (VN N) hg h hr (hin ha) (hin hb)
 exact ⟨r, σ', tr, ⟨g, h⟩, uniG_eq h, uniF_uni hg h, (uni_all (okX_kids N) g).1 σ a b r σ' tr hg h ho ha hb, fun m hm => mem_VN.1 (h2 m hm)⟩
theorem UniG.out {N : Int} {σ : Sub} {a b : Tm} {r : Bool} {σ' : Sub} {tr : List Int} (h : UniG N σ a b r σ' tr) (n : Int) : (if n ∈ tr then none else σ' n) = σ n := by
 split
 · rename_i hn; exact ((h.uni.new n hn).1).symm
 · rename_i hn; exact h.uni.keep n hn
def Sub.out (σ : Sub) (l : List Int) : Sub := fun n => if n ∈ l then Option.none else σ n
theorem Sub.out_out (σ : Sub) (l m : List Int) : (σ.out l).out m = σ.out (l ++ m) := by
 funext n
 unfold Sub.out
 by_cases h1 : n ∈ m
 · rw [if_pos h1, if_pos (by simp [h1])]
 · rw [if_neg h1]
   by_cases h2 : n ∈ l
   · rw [if_pos h2, if_pos (by simp [h2])]
   · rw [if_neg h2, if_neg (by simp [h1, h2])]
theorem Sub.out_perm (σ : Sub) {l m : List Int} (h : ∀ n, n ∈ l ↔ n ∈ m) : σ.out l = σ.out m := by
 funext n
 unfold Sub.out
 simp only [h n]
def ren (ρ : Int → Int) (t : Tm) : Tm := t.mapv fun v => vr (ρ v)
theorem ren_vr (ρ : Int → Int) (n : Int) : ren ρ (vr n) = vr (ρ n) := mapv_vr _ n
theorem ren_mk (ρ : Int → Int) {k n : Int} {s : ByteArray} {ts : List Tm} (h : k ≠ 1) : ren ρ (.mk k n s ts) = .mk k n s (ts.map (ren ρ)) := Tm.mapv_mk _ h
theorem ren_var (ρ : Int → Int) {t : Tm} (h : t.k = 1) : ren ρ t = vr (ρ t.n) := Tm.mapv_k1 _ h
theorem ren_ne (ρ : Int → Int) {t : Tm} (h : t.k ≠ 1) : ren ρ t = .mk t.k t.n t.s (t.ts.map (ren ρ)) := Tm.mapv_k _ h
theorem ren_k (ρ : Int → Int) (t : Tm) : (ren ρ t).k = t.k := by
 by_cases h : t.k = 1
 · rw [ren_var ρ h, h]; rfl
 · rw [ren_ne ρ h]; rfl
theorem ren_nodes (ρ : Int → Int) {t : Tm} (hc : t.cv = true) : (ren ρ t).nodes = t.nodes := by
 induction t using Tm.ind with
 | h k n s ts ih =>
  obtain ⟨h1, h2⟩ := Tm.cv_mk.1 hc
  by_cases hk : k = 1
  · obtain ⟨_, rfl⟩ := h1 hk
    rw [ren_var ρ (t := .mk k n s []) hk, vr, Tm.nodes_mk, Tm.nodes_mk]
  · rw [ren_mk ρ hk, Tm.nodes_mk, Tm.nodes_mk]
    congr 1
    have : ∀ l : List Tm, (∀ x ∈ l, x ∈ ts) → sumL Tm.nodes (l.map (ren ρ)) = sumL Tm.nodes l := by
     intro l
     induction l with
     | nil => intro _; rfl
     | cons x l ihl => intro h; simp only [List.map_cons, sumL]; rw [ih x (h x (by simp)) (h2 x (h x (by simp))), ihl fun y hy => h y (by simp [hy])]
    exact this ts fun _ h => h
theorem ren_flat (ρ : Int → Int) {t : Tm} (hc : t.cv = true) : ∀ d, (ren ρ t).flat d = t.flat d := by
 induction t using Tm.ind with
 | h k n s ts ih =>
  intro d
  obtain ⟨h1, h2⟩ := Tm.cv_mk.1 hc
  cases d with
  | zero => rw [Tm.flat_zero, Tm.flat_zero]
  | succ d =>
   by_cases hk : k = 1
   · obtain ⟨_, rfl⟩ := h1 hk
     rw [ren_var ρ (t := .mk k n s []) hk, vr, Tm.flat_succ, Tm.flat_succ]
   · rw [ren_mk ρ hk, Tm.flat_succ, Tm.flat_succ, List.all_map]
     rw [Bool.eq_iff_iff, List.all_eq_true, List.all_eq_true]
     constructor
     · intro h x hx; rw [← ih x hx (h2 x hx) d]; exact h x hx
     · intro h x hx; simp only [Function.comp_apply]; rw [ih x hx (h2 x hx) d]; exact h x hx
theorem vl_ren {ρ : Int → Int} {t : Tm} {w : Int} : w ∈ (ren ρ t).vl ↔ ∃ v ∈ t.vl, w = ρ v := by
 unfold ren
 rw [vl_mapv]
 simp only [vl_vr, List.mem_cons, List.not_mem_nil, or_false]
theorem ren_congr {ρ ρ' : Int → Int} {t : Tm} (h : ∀ v ∈ t.vl, ρ v = ρ' v) : ren ρ t = ren ρ' t := mapv_congr t fun v hv => by rw [h v hv]
theorem ren_mapv (ρ : Int → Int) (f : Int → Tm) (t : Tm) : (ren ρ t).mapv f = t.mapv fun v => f (ρ v) := by
 unfold ren
 rw [mapv_mapv]
 exact mapv_congr t fun v _ => mapv_vr f (ρ v)
theorem mapv_ren (ρ : Int → Int) (f : Int → Tm) (t : Tm) : ren ρ (t.mapv f) = t.mapv fun v => ren ρ (f v) := by
 unfold ren
 rw [mapv_mapv]
theorem OkV.ren {N M : Int} {ρ : Int → Int} {t : Tm} (h : OkV N t) (hr : ∀ v ∈ t.vl, 0 ≤ ρ v ∧ ρ v < M) : OkV M (AW.ren ρ t) := h.mapv fun v hv => okV_vr (hr v hv).1 (hr v hv).2
theorem OkX.ren {N M : Int} {ρ : Int → Int} {t : Tm} (h : OkX N t) (hr : ∀ v ∈ t.vl, 0 ≤ ρ v ∧ ρ v < M) : OkX M (AW.ren ρ t) := ⟨h.1.ren hr, by rw [ren_nodes ρ h.1.2.1]; exact h.2⟩
structure Sim (ρ : Int → Int) (N : Int) (σ τ : Sub) : Prop where
 inj : ∀ v w, 0 ≤ v → v < N → 0 ≤ w → w < N → ρ v = ρ w → v = w
 map : ∀ v, 0 ≤ v → v < N → τ (ρ v) = (σ v).map (ren ρ)
section
variable {ρ : Int → Int} {N : Int} {σ τ : Sub}
theorem Sim.wk (S : Sim ρ N σ τ) (ho : AllS (OkV N) σ) {f : Nat} {t u : Tm} (h : WkN σ f t u) : OkV N t → WkN τ f (ren ρ t) (ren ρ u) := by
 induction h with
 | @stop t h =>
  intro ht
  refine .stop fun hk => ?_
  rw [ren_k] at hk
  have hr := ht.2.2 t.n (by rw [Tm.vl_k1 hk]; simp)
  rw [ren_var ρ hk]
  show τ (ρ t.n) = none
  rw [S.map _ hr.1 hr.2, h hk]; rfl
 | @go f t u v h1 h2 _ ih =>
  intro ht
  have hr := ht.2.2 t.n (by rw [Tm.vl_k1 h1]; simp)
  refine .go (u := ren ρ u) (by rw [ren_k]; exact h1) ?_ (ih (ho _ _ h2))
  rw [ren_var ρ h1]
  show τ (ρ t.n) = _
  rw [S.map _ hr.1 hr.2, h2]; rfl
theorem Sim.rs (S : Sim ρ N σ τ) (hg : IsGood σ) (hg' : IsGood τ) (ho : AllS (OkV N) σ) : ∀ v, 0 ≤ v → v < N → rs τ (ρ v) = ren ρ (rs σ v) := by
 obtain ⟨rk, B, G⟩ := hg.rs
 obtain ⟨rk', B', G'⟩ := hg'.rs
 refine fun v => G.ind (p := fun v => 0 ≤ v → v < N → AW.rs τ (ρ v) = ren ρ (AW.rs σ v)) (fun v h h0 h1 => ?_) (fun v u h ih h0 h1 => ?_) v
 · rw [G.free h, ren_vr, G'.free (by rw [S.map v h0 h1, h]; rfl)]
 · rw [G.bound h, mapv_ren, G'.bound (u := ren ρ u) (by rw [S.map v h0 h1, h]; rfl), ren_mapv]
   refine mapv_congr u fun w hw => ?_
   have := (ho v u h).2.2 w hw
   exact ih w hw this.1 this.2
theorem Sim.rsT (S : Sim ρ N σ τ) (hg : IsGood σ) (hg' : IsGood τ) (ho : AllS (OkV N) σ) {t : Tm} (ht : OkV N t) : (ren ρ t).mapv (AW.rs τ) = ren ρ (t.mapv (AW.rs σ)) := by
 rw [ren_mapv, mapv_ren]
 exact mapv_congr t fun v hv => S.rs hg hg' ho v (ht.2.2 v hv).1 (ht.2.2 v hv).2
theorem Sim.mem (S : Sim ρ N σ τ) {t : Tm} (ht : OkV N t) {n : Int} (h0 : 0 ≤ n) (h1 : n < N) : ρ n ∈ (ren ρ t).vl ↔ n ∈ t.vl := by
 rw [vl_ren]
 constructor
 · rintro ⟨v, hv, e⟩
   rw [S.inj n v h0 h1 (ht.2.2 v hv).1 (ht.2.2 v hv).2 e]; exact hv
 · exact fun h => ⟨n, h, rfl⟩
theorem Sim.set (S : Sim ρ N σ τ) {n : Int} (h0 : 0 ≤ n) (h1 : n < N) (t : Tm) : Sim ρ N (σ.set n t) (τ.set (ρ n) (ren ρ t)) := by
 refine ⟨S.inj, fun v hv0 hv1 => ?_⟩
 unfold Sub.set
 by_cases h : v = n
 · subst h; simp
 · rw [if_neg (fun e => h (S.inj v n hv0 hv1 h0 h1 e)), if_neg h, S.map v hv0 hv1]
theorem Sim.bnd (S : Sim ρ N σ τ) (hg : IsGood σ) (hg' : IsGood τ) (ho : AllS (OkV N) σ) {n : Int} (h0 : 0 ≤ n) (h1 : n < N) {t : Tm} (ht : OkV N t) {r : Bool} {σ' : Sub} {tr : List Int} (h : bnd σ n t = (r, σ', tr)) :
 ∃ τ', AW.bnd τ (ρ n) (ren ρ t) = (r, τ', tr.map ρ) ∧ Sim ρ N σ' τ' := by
 obtain ⟨rk, B, G⟩ := hg.rs
 have e := S.mem (G.okVT ho ht) h0 h1
 rw [← S.rsT hg hg' ho ht] at e
 unfold AW.bnd at h ⊢
 by_cases hm : n ∈ (t.mapv (AW.rs σ)).vl
 · rw [if_pos hm] at h
   rw [if_pos (e.2 hm)]
   cases h
   exact ⟨τ, rfl, S⟩
 · rw [if_neg hm] at h
   rw [if_neg (fun h => hm (e.1 h))]
   cases h
   exact ⟨_, rfl, S.set h0 h1 t⟩
theorem headEq_ren {a b : Tm} (ha : a.k ≠ 1) (hb : b.k ≠ 1) : headEq (ren ρ a) (ren ρ b) = headEq a b := by
 obtain ⟨k, n, s, ts⟩ := a
 obtain ⟨k', n', s', ts'⟩ := b
 simp only [Tm.k] at ha hb
 rw [ren_mk ρ ha, ren_mk ρ hb, Bool.eq_iff_iff, headEq_iff, headEq_iff]
 simp only [Tm.k, Tm.n, Tm.s, Tm.ts, List.length_map]
theorem Sim.wkEq (S : Sim ρ N σ τ) (hg : IsGood σ) (ho : AllS (OkV N) σ) {t : Tm} (ht : OkV N t) : AW.wk τ (ren ρ t) = ren ρ (AW.wk σ t) := by
 obtain ⟨rk, B, G⟩ := hg.rs
 obtain ⟨f, h⟩ := G.wk t
 exact (S.wk ho h ht).wk
theorem uni_sim (ρ : Int → Int) (N : Int) : ∀ g : Nat, (∀ (σ τ : Sub) (a b : Tm) (r : Bool) (σ' : Sub) (tr : List Int), IsGood σ → IsGood τ → AllS (OkV N) σ → OkV N a → OkV N b → Sim ρ N σ τ → uniF g σ a b = some (r, σ', tr) → ∃ τ', uniF g τ (ren ρ a) (ren ρ b) = some (r, τ', tr.map ρ) ∧ Sim ρ N σ' τ') ∧
 (∀ (xs ys : List Tm) (σ τ : Sub) (r : Bool) (σ' : Sub) (tr : List Int), IsGood σ → IsGood τ → AllS (OkV N) σ → (∀ x ∈ xs, OkV N x) → (∀ y ∈ ys, OkV N y) → Sim ρ N σ τ → unisF g σ xs ys = some (r, σ', tr) → ∃ τ', unisF g τ (xs.map (ren ρ)) (ys.map (ren ρ)) = some (r, τ', tr.map ρ) ∧ Sim ρ N σ' τ') := by
 intro g
 induction g with
 | zero =>
  refine ⟨fun σ τ a b r σ' tr _ _ _ _ _ _ h => (by simp only [uniF] at h; cases h), ?_⟩
  intro xs ys σ τ r σ' tr _ _ _ _ _ S h
  match xs, ys with
  | [], _ => simp only [unisF, Option.some.injEq, Prod.mk.injEq] at h; obtain ⟨rfl, rfl, rfl⟩ := h; exact ⟨τ, by simp only [List.map_nil, unisF], S⟩
  | x :: xs, [] => simp only [unisF, Option.some.injEq, Prod.mk.injEq] at h; obtain ⟨rfl, rfl, rfl⟩ := h; exact ⟨τ, by simp only [List.map_cons, List.map_nil, unisF], S⟩
  | x :: xs, y :: ys => simp only [unisF, uniF] at h; cases h
 | succ g ih =>
  have one : ∀ (σ τ : Sub) (a b : Tm) (r : Bool) (σ' : Sub) (tr : List Int), IsGood σ → IsGood τ → AllS (OkV N) σ → OkV N a → OkV N b → Sim ρ N σ τ → uniF (g + 1) σ a b = some (r, σ', tr) → ∃ τ', uniF (g + 1) τ (ren ρ a) (ren ρ b) = some (r, τ', tr.map ρ) ∧ Sim ρ N σ' τ' := by
   intro σ τ a b r σ' tr hg hg' ho ha hb S h
   obtain ⟨rk, B, G⟩ := hg.rs
   obtain ⟨fa, wa⟩ := G.wk a
   obtain ⟨fb, wb⟩ := G.wk b
   have oa := wa.all (p := OkV N) ho ha
   have ob := wb.all (p := OkV N) ho hb
   have ea := S.wkEq hg ho ha
   have eb := S.wkEq hg ho hb
   have h := uniF_cases h
   generalize AW.wk σ a = a1 at *
   generalize AW.wk σ b = b1 at *
   rw [uniF, ea, eb, ren_k, ren_k]
   have rng : ∀ {t : Tm}, OkV N t → t.k = 1 → 0 ≤ t.n ∧ t.n < N := fun ht hk => ht.2.2 _ (by rw [Tm.vl_k1 hk]; simp)
   have nn : ∀ {t : Tm}, t.k = 1 → (ren ρ t).n = ρ t.n := fun hk => by rw [ren_var ρ hk]; rfl
   rcases h with ⟨h1, h2, h3, rfl, rfl, rfl⟩ | ⟨h1, h2, h3⟩ | ⟨h1, h2, h3⟩ | ⟨h1, h2, h3, h4⟩ | ⟨h1, h2, h3, rfl, rfl, rfl⟩
   · exact ⟨τ, by rw [if_pos ⟨h1, h2, by rw [nn h1, nn h2, h3]⟩]; rfl, S⟩
   · have ra := rng oa h1
     obtain ⟨τ', e, S'⟩ := S.bnd hg hg' ho ra.1 ra.2 ob h3
     refine ⟨τ', ?_, S'⟩
     rw [if_neg, if_pos h1, nn h1, e]
     rintro ⟨_, h5, h6⟩
     have rb := rng ob h5
     rw [nn h1, nn h5] at h6
     exact h2 ⟨h5, S.inj _ _ ra.1 ra.2 rb.1 rb.2 h6⟩
   · have rb := rng ob h2
     obtain ⟨τ', e, S'⟩ := S.bnd hg hg' ho rb.1 rb.2 oa h3
     refine ⟨τ', ?_, S'⟩
     rw [if_neg (fun h => h1 h.1), if_neg h1, if_pos h2, nn h2, e]
   · obtain ⟨τ', e, S'⟩ := ih.2 a1.ts b1.ts σ τ r σ' tr hg hg' ho (okV_kids N a1 h1 oa) (okV_kids N b1 h2 ob) S h4
     refine ⟨τ', ?_, S'⟩
     rw [if_neg (fun h => h1 h.1), if_neg h1, if_neg h2, if_pos (by rw [headEq_ren h1 h2]; exact h3), ren_ne ρ h1, ren_ne ρ h2]
     exact e
   · refine ⟨τ, ?_, S⟩
     rw [if_neg (fun h => h1 h.1), if_neg h1, if_neg h2, if_neg (by rw [headEq_ren h1 h2, h3]; simp)]
     rfl
  refine ⟨one, ?_⟩
  intro xs
  induction xs with
  | nil =>
   intro ys σ τ r σ' tr _ _ _ _ _ S h
   simp only [unisF, Option.some.injEq, Prod.mk.injEq] at h; obtain ⟨rfl, rfl, rfl⟩ := h; exact ⟨τ, by simp only [List.map_nil, unisF], S⟩
  | cons x xs ihx =>
   intro ys σ τ r σ' tr hg hg' ho hx hy S h
   cases ys with
   | nil => simp only [unisF, Option.some.injEq, Prod.mk.injEq] at h; obtain ⟨rfl, rfl, rfl⟩ := h; exact ⟨τ, by simp only [List.map_cons, List.map_nil, unisF], S⟩
   | cons y ys =>
    rw [unisF] at h
    simp only [List.map_cons]
    rw [unisF]
    cases hu : uniF (g + 1) σ x y with
    | none => rw [hu] at h; cases h
    | some p =>
     obtain ⟨r1, σ1, tr1⟩ := p
     rw [hu] at h
     obtain ⟨τ1, e1, S1⟩ := one σ τ x y r1 σ1 tr1 hg hg' ho (hx x (by simp)) (hy y (by simp)) S hu
     rw [e1]
     cases r1 with
     | false =>
      simp only [Option.some.injEq, Prod.mk.injEq] at h ⊢
      obtain ⟨rfl, rfl, rfl⟩ := h
      exact ⟨τ1, ⟨rfl, rfl, rfl⟩, S1⟩
     | true =>
      simp only at h ⊢
      cases hu2 : unisF (g + 1) σ1 xs ys with
      | none => rw [hu2] at h; cases h
      | some p2 =>
       obtain ⟨r2, σ2, tr2⟩ := p2
       rw [hu2] at h
       simp only [Option.some.injEq, Prod.mk.injEq] at h
       obtain ⟨rfl, rfl, rfl⟩ := h
       have U1 := uniF_uni hg hu
       have U1' := uniF_uni hg' e1
       have ho1 := (uni_all (okV_kids N) (g + 1)).1 σ x y true σ1 tr1 hg hu ho (hx x (by simp)) (hy y (by simp))
       obtain ⟨τ2, e2, S2⟩ := ihx ys σ1 τ1 r2 σ2 tr2 U1.good U1'.good ho1 (fun z hz => hx z (by simp [hz])) (fun z hz => hy z (by simp [hz])) S1 hu2
       rw [e2]
       exact ⟨τ2, by simp only [List.map_append], S2⟩
theorem Sim.uniG (S : Sim ρ N σ τ) (hg : IsGood σ) (hg' : IsGood τ) (ho : AllS (OkV N) σ) {a b : Tm} (ha : OkV N a) (hb : OkV N b) {r : Bool} {σ' : Sub} {tr : List Int} {g : Nat} (h : uniF g σ a b = some (r, σ', tr)) :
 ∃ τ', AW.uniG τ (ren ρ a) (ren ρ b) = (r, τ', tr.map ρ) ∧ Sim ρ N σ' τ' ∧ IsGood τ' := by
 obtain ⟨τ', e, S'⟩ := (uni_sim ρ N g).1 σ τ a b r σ' tr hg hg' ho ha hb S h
 exact ⟨τ', uniG_eq e, S', (uniF_uni hg' e).good⟩
end
end Go.AW
namespace Go.AW
open Go.Proofs.Tryz
def InR (n : Int) : Prop := -999 ≤ n ∧ n ≤ 999
theorem arOp_in (s : ByteArray) (a b : Int) (ha : InR a) (hb : InR b) : InR (arOp s a b).1 := by
 unfold arOp InR
 split
 · exact ranged_le _
 split
 · exact ranged_le _
 split
 · exact ranged_le _
 split
 · simp
 rename_i h0
 split
 · exact fmodI_le a b ha hb h0
 · exact tdiv_le a b ha
theorem both_in {f : Int → Int → Int × Int} {x y : Int × Int} (h : InR (f x.1 y.1).1) : InR (both f x y).1 := by
 unfold both InR
 split
 · simp
 split
 · simp
 · exact h
theorem Tm.ev_in {N : Int} : ∀ t : Tm, OkV N t → InR t.ev.1 := by
 intro t
 induction t using Tm.ind with
 | h k n s ts ih =>
  intro h
  obtain ⟨h1, h2⟩ := h.all
  rw [Tm.ev_mk]
  split
  · rename_i hk; exact h1 hk
  split
  · simp [InR]
  split
  · match ts, h2, ih with
    | [], _, _ => simp [two, InR]
    | [x], _, _ => simp [two, InR]
    | [x, y], h2, ih => exact both_in (arOp_in _ _ _ (ih x (by simp) (h2 x (by simp))) (ih y (by simp) (h2 y (by simp))))
    | x :: y :: z :: l, _, _ => simp [two, InR]
  · simp [InR]
theorem two_kids {ts : List Tm} (h : (ts.length : Int) = 2) : ∃ x y, ts = [x, y] := by
 match ts, h with
 | [x, y], _ => exact ⟨x, y, rfl⟩
 | [], h => simp at h
 | [x], h => simp at h
 | x :: y :: z :: l, h => simp at h; omega
abbrev tf_B1_136 := zi tI_3 (zi zI_3 (zi underlying3 (zi tI_4 (zi zI_4 (zi underlying4 (zi tI_9 (zi zI_9 (zi underlying9 (zi tI_29 (zi zI_29 (zi eI_29 (zi eB_29 (zi eZ_29 (zi underlying29 (zi tI_56 (zi zI_56 (zi fI_56_0 (zi fI_56_1 (zi fI_56_2 (zi fI_56_3 (zi bI_56 (zi tI_140 (zi zI_140 (zi eI_140 (zi eB_140 (zi eZ_140 underlying140))))))))))))))))))))))))))
theorem c_arith {N : Int} : ∀ (t : Tm) (st : zy7), OkV N t → zq7 prog 136 [t.av] st (fun r st' => r = .tup [.int .i64 t.ev.1, .int .i64 t.ev.2] ∧ st' = st)
 | .mk k n s ts, st, hok => by
  obtain ⟨h1, h2⟩ := hok.all
  have IH := fun (x : Tm) (hx : x ∈ ts) st => c_arith x st (h2 x hx)
  rw [Tm.ev_mk]
  simp only [Tm.av_mk]
  refine wF [1000000] 1 func136 ntmps136 rfl rfl ?_
  intro _
  simp -implicitDefEqProofs only [List.length_map, evF, ↓evZ, implies_true, seval, tf_B1_136]
  refine zq4 (fun hk => ?_) (fun hk => ?_)
  · simp -implicitDefEqProofs only [List.length_map, evF, ↓evZ, implies_true, seval, tf_B1_136]
    simp only [decide_eq_true_eq] at hk
    simp [hk]
  simp only [decide_eq_false_iff_not] at hk
  rw [if_neg hk]
  simp -implicitDefEqProofs only [List.length_map, evF, ↓evZ, implies_true, seval, tf_B1_136]
  refine zq4 (fun hk1 => ?_) (fun hk1 => ?_)
  · simp -implicitDefEqProofs only [List.length_map, evF, ↓evZ, implies_true, seval, tf_B1_136]
    simp only [decide_eq_true_eq] at hk1
    simp [hk1]
  simp only [decide_eq_false_iff_not] at hk1
  rw [if_neg hk1]
  simp -implicitDefEqProofs only [List.length_map, evF, ↓evZ, implies_true, seval, tf_B1_136]
  have hty : ∀ s0 : zy7, ts.length ≠ 2 ∨ inN arNames s = false → (if inN arNames s = true then two (arOp s) (ts.map Tm.ev) else (0, 3)) = ((0 : Int), (3 : Int)) := fun _ h => by
   split
   · rename_i h3
     rcases h with h | h
     · match ts, h with
       | [], _ => rfl
       | [x], _ => rfl
       | [x, y], h => simp at h
       | x :: y :: z :: l, _ => rfl
     · rw [h] at h3; cases h3
   · rfl
  refine zx4 (fun h => ?_) (fun h => ?_)
  case refine_2 =>
   simp -implicitDefEqProofs only [h, List.length_map, evF, ↓evZ, implies_true, seval, tf_B1_136]
   rw [hty st (.inl (by simp at h; omega))]
  simp -implicitDefEqProofs only [h, List.length_map, evF, ↓evZ, implies_true, seval, tf_B1_136]
  refine (c_ContainsS' arNames s _).to ?_
  simp -implicitDefEqProofs only [h, List.length_map, evF, ↓evZ, implies_true, seval, tf_B1_136]
  refine zq4 (fun h3 => ?_) (fun h3 => ?_)
  · simp -implicitDefEqProofs only [List.length_map, evF, ↓evZ, implies_true, seval, tf_B1_136]
    rw [hty st (.inr (by simpa [inN] using h3))]
  have hin : inN arNames s = true := by simpa [inN] using h3
  rw [if_pos hin]
  clear hty
  obtain ⟨x, y, rfl⟩ := two_kids (by simpa using h)
  have hat0 : aIndexAddr prog 29 (.slice [x.av, y.av]) (.int .i64 0) = some (.pptr x.av) := ev_at (av := Tm.av) (l := [x, y]) (i := 0) eI_29 rfl (Tm.av_width x)
  have hat1 : aIndexAddr prog 29 (.slice [x.av, y.av]) (.int .i64 1) = some (.pptr y.av) := ev_at (av := Tm.av) (l := [x, y]) (i := 1) eI_29 rfl (Tm.av_width y)
  have hx := Tm.ev_in x (h2 x (by simp))
  have hy := Tm.ev_in y (h2 y (by simp))
  have IHx := fun st => IH x (by simp) st
  have IHy := fun st => IH y (by simp) st
  simp -implicitDefEqProofs only [hat0, hat1, Tm.av_agg, Tm.av_width, evF, ↓evZ, implies_true, seval, tf_B1_136]
  refine (IHx _).to ?_
  simp only [List.map_cons, List.map_nil, two, both]
  generalize x.ev.1 = a at *
  generalize x.ev.2 = ca at *
  generalize y.ev.1 = b at *
  generalize y.ev.2 = cb at *
  simp -implicitDefEqProofs only [hat0, hat1, Tm.av_agg, Tm.av_width, evF, ↓evZ, implies_true, seval, tf_B1_136]
  refine zq4 (fun h4 => ?_) (fun h4 => ?_)
  · simp -implicitDefEqProofs only [hat0, hat1, Tm.av_agg, Tm.av_width, evF, ↓evZ, implies_true, seval, tf_B1_136]
    have h4' : ca ≠ 0 := by simpa using h4
    rw [if_pos h4']
  have h4' : ca = 0 := by simpa using h4
  subst h4'
  rw [if_neg (by simp)]
  simp -implicitDefEqProofs only [hat0, hat1, Tm.av_agg, Tm.av_width, evF, ↓evZ, implies_true, seval, tf_B1_136]
  refine (IHy _).to ?_
  simp -implicitDefEqProofs only [hat0, hat1, Tm.av_agg, Tm.av_width, evF, ↓evZ, implies_true, seval, tf_B1_136]
  refine zq4 (fun h5 => ?_) (fun h5 => ?_)
  · simp -implicitDefEqProofs only [hat0, hat1, Tm.av_agg, Tm.av_width, evF, ↓evZ, implies_true, seval, tf_B1_136]
    have h5' : cb ≠ 0 := by simpa using h5
    rw [if_pos h5']
  have h5' : cb = 0 := by simpa using h5
  subst h5'
  rw [if_neg (by simp)]
  unfold InR at hx hy
  have hmul : -998001 ≤ a * b ∧ a * b ≤ 998001 := by
   have h6 : (a * b).natAbs ≤ 998001 := by
    rw [Int.natAbs_mul]
    have := Nat.mul_le_mul (show a.natAbs ≤ 999 by omega) (show b.natAbs ≤ 999 by omega)
    omega
   omega
  have hw1 := wrap64 (n := a + b) (by omega) (by omega)
  have hw2 := wrap64 (n := a - b) (by omega) (by omega)
  have hw3 := wrap64 (n := a * b) (by omega) (by omega)
  have hrg : ∀ (v : Int) (st' : zy7), zq7 prog 18 [.int .i64 v, .int .i64 (-999), .int .i64 999] st' (fun r s' => r = .bool (decide (ranged v = (v, 0))) ∧ s' = st') := fun v st' => by
   refine (c_within v (-999) 999 st').mono ?_
   rintro _ _ ⟨rfl, rfl⟩
   refine ⟨?_, rfl⟩
   congr 1
   unfold ranged
   split
   · rename_i h; simp [h.1, h.2]
   · rename_i h
     rw [show (decide (((0 : Int), (5 : Int)) = (v, 0))) = false from decide_eq_false (by simp)]
     simp only [Bool.and_eq_false_iff, decide_eq_false_iff_not]
     omega
  have hrn : ∀ v, ranged v ≠ (v, 0) → ranged v = (0, 5) := fun v h => by
   unfold ranged at h ⊢
   split
   · rename_i h'; rw [if_pos h'] at h; exact absurd rfl h
   · rfl
  unfold arOp
  simp -implicitDefEqProofs only [hw1, hw2, hw3, evF, ↓evZ, implies_true, seval, tf_B1_136]
  refine zq4 (fun h6 => ?_) (fun h6 => ?_)
  · simp -implicitDefEqProofs only [hw1, hw2, hw3, evF, ↓evZ, implies_true, seval, tf_B1_136]
    rw [if_pos (by simpa using h6)]
    refine (hrg (a + b) _).to ?_
    simp -implicitDefEqProofs only [hw1, hw2, hw3, evF, ↓evZ, implies_true, seval, tf_B1_136]
    refine zq4 (fun h8 => ?_) (fun h8 => ?_)
    · simp -implicitDefEqProofs only [hw1, hw2, hw3, evF, ↓evZ, implies_true, seval, tf_B1_136]
      rw [hrn _ (by simpa using h8)]
    · simp -implicitDefEqProofs only [hw1, hw2, hw3, evF, ↓evZ, implies_true, seval, tf_B1_136]
      rw [show ranged (a + b) = (a + b, 0) by simpa using h8]
  rw [if_neg (by simpa using h6)]
  simp -implicitDefEqProofs only [hw1, hw2, hw3, evF, ↓evZ, implies_true, seval, tf_B1_136]
  refine zq4 (fun h7 => ?_) (fun h7 => ?_)
  · simp -implicitDefEqProofs only [hw1, hw2, hw3, evF, ↓evZ, implies_true, seval, tf_B1_136]
    rw [if_pos (by simpa using h7)]
    refine (hrg (a - b) _).to ?_
    simp -implicitDefEqProofs only [hw1, hw2, hw3, evF, ↓evZ, implies_true, seval, tf_B1_136]
    refine zq4 (fun h8 => ?_) (fun h8 => ?_)
    · simp -implicitDefEqProofs only [hw1, hw2, hw3, evF, ↓evZ, implies_true, seval, tf_B1_136]
      rw [hrn _ (by simpa using h8)]
    · simp -implicitDefEqProofs only [hw1, hw2, hw3, evF, ↓evZ, implies_true, seval, tf_B1_136]
      rw [show ranged (a - b) = (a - b, 0) by simpa using h8]
  rw [if_neg (by simpa using h7)]
  simp -implicitDefEqProofs only [hw1, hw2, hw3, evF, ↓evZ, implies_true, seval, tf_B1_136]
  refine zq4 (fun h9 => ?_) (fun h9 => ?_)
  · simp -implicitDefEqProofs only [hw1, hw2, hw3, evF, ↓evZ, implies_true, seval, tf_B1_136]
    rw [if_pos (by simpa using h9)]
    refine (hrg (a * b) _).to ?_
    simp -implicitDefEqProofs only [hw1, hw2, hw3, evF, ↓evZ, implies_true, seval, tf_B1_136]
    refine zq4 (fun h8 => ?_) (fun h8 => ?_)
    · simp -implicitDefEqProofs only [hw1, hw2, hw3, evF, ↓evZ, implies_true, seval, tf_B1_136]
      rw [hrn _ (by simpa using h8)]
    · simp -implicitDefEqProofs only [hw1, hw2, hw3, evF, ↓evZ, implies_true, seval, tf_B1_136]
      rw [show ranged (a * b) = (a * b, 0) by simpa using h8]
  rw [if_neg (by simpa using h9)]
  simp -implicitDefEqProofs only [hw1, hw2, hw3, evF, ↓evZ, implies_true, seval, tf_B1_136]
  refine zq4 (fun h0 => ?_) (fun h0 => ?_)
  · simp -implicitDefEqProofs only [hw1, hw2, hw3, evF, ↓evZ, implies_true, seval, tf_B1_136]
    rw [if_pos (by simpa using h0)]
  have h0' : b ≠ 0 := by simpa using h0
  rw [if_neg h0']
  have hq := tdiv_le a b hx
  have hr := tmod_lt a b h0'
  have hf := fmodI_le a b hx hy h0'
  have hfe := fmodI_eq a b h0'
  have hw4 := wrap64 (n := a.tdiv b) (by omega) (by omega)
  have hw5 := wrap64 (n := a.tmod b + b) (by omega) (by omega)
  have hin1 : ranged (a.tdiv b) = (a.tdiv b, 0) := by unfold ranged; rw [if_pos hq]
  have hin2 : ranged (fmodI a b) = (fmodI a b, 0) := by unfold ranged; rw [if_pos hf]
  simp -implicitDefEqProofs only [hw4, hw5, h0', hfe, evF, ↓evZ, implies_true, seval, tf_B1_136]
  refine zq4 (fun h10 => ?_) (fun h10 => ?_)
  · simp -implicitDefEqProofs only [hw4, hw5, h0', hfe, evF, ↓evZ, implies_true, seval, tf_B1_136]
    rw [if_pos (by simpa using h10)]
    refine (hrg (fmodI a b) _).to ?_
    have hd : decide (ranged (fmodI a b) = (fmodI a b, 0)) = true := by rw [hin2]; simp
    simp -implicitDefEqProofs only [hd, hw4, hw5, h0', hfe, evF, ↓evZ, implies_true, seval, tf_B1_136]
  · simp -implicitDefEqProofs only [hw4, hw5, h0', hfe, evF, ↓evZ, implies_true, seval, tf_B1_136]
    rw [if_neg (by simpa using h10)]
    refine (hrg (a.tdiv b) _).to ?_
    have hd : decide (ranged (a.tdiv b) = (a.tdiv b, 0)) = true := by rw [hin1]; simp
    simp -implicitDefEqProofs only [hd, hw4, hw5, h0', hfe, evF, ↓evZ, implies_true, seval, tf_B1_136]
termination_by t => SizeOf.sizeOf t
decreasing_by have := List.sizeOf_lt_of_mem hx; simp only [Tm.mk.sizeOf_spec]; omega
abbrev tf_B1_125 := zi tI_3 (zi zI_3 underlying3)
theorem c_l5Ranged (n : Int) (st : zy7) : zq7 prog 125 [.int .i64 n] st (fun r st' => r = .tup [.int .i64 (ranged n).1, .int .i64 (ranged n).2] ∧ st' = st) := by
 refine wF [1000000] 1 func125 ntmps125 rfl rfl ?_
 intro _
 simp -implicitDefEqProofs only [evF, ↓evZ, implies_true, seval, tf_B1_125]
 refine zx4 (fun h => ?_) (fun h => ?_)
 · simp -implicitDefEqProofs only [h, evF, ↓evZ, implies_true, seval, tf_B1_125]
   have h1 : ¬ n < -999 := by simpa using h
   refine zq4 (fun h2 => ?_) (fun h2 => ?_)
   · simp -implicitDefEqProofs only [evF, ↓evZ, implies_true, seval, tf_B1_125]
     have h2' : 999 < n := by simpa using h2
     unfold ranged
     rw [if_neg (by omega)]
   · simp -implicitDefEqProofs only [evF, ↓evZ, implies_true, seval, tf_B1_125]
     have h2' : ¬ 999 < n := by simpa using h2
     unfold ranged
     rw [if_pos (by omega)]
 · simp -implicitDefEqProofs only [h, evF, ↓evZ, implies_true, seval, tf_B1_125]
   have h1 : n < -999 := by simpa using h
   unfold ranged
   rw [if_neg (by omega)]
abbrev tf_B1_126 := zi tI_3 (zi zI_3 (zi underlying3 (zi tI_4 (zi zI_4 underlying4))))
theorem c_l5Mod (a b : Int) (ha : InR a) (hb : InR b) (h0 : b ≠ 0) (st : zy7) : zq7 prog 126 [.int .i64 a, .int .i64 b] st (fun r st' => r = .int .i64 (fmodI a b) ∧ st' = st) := by
 have hl := tmod_lt a b h0
 unfold InR at ha hb
 have hw := wrap64 (n := a.tmod b + b) (by omega) (by omega)
 refine wF [1000000] 2 func126 ntmps126 rfl rfl ?_
 intro _
 simp -implicitDefEqProofs only [h0, hw, evF, ↓evZ, implies_true, seval, tf_B1_126]
 have hf : fmodI a b = if a.tmod b ≠ 0 ∧ decide (a.tmod b < 0) ≠ decide (b < 0) then a.tmod b + b else a.tmod b := rfl
 rw [hf]
 clear hf
 generalize hm : a.tmod b = m at *
 refine zx4 (fun h => ?_) (fun h => ?_)
 · have h' : m ≠ 0 := by simpa using h
   simp -implicitDefEqProofs only [h, h0, hw, evF, ↓evZ, implies_true, seval, tf_B1_126]
   refine zq4 (fun h2 => ?_) (fun h2 => ?_)
   · simp -implicitDefEqProofs only [h0, hw, evF, ↓evZ, implies_true, seval, tf_B1_126]
     rw [if_pos ⟨h', by simpa using h2⟩]
   · simp -implicitDefEqProofs only [h0, hw, evF, ↓evZ, implies_true, seval, tf_B1_126]
     rw [if_neg (by intro h3; exact h3.2 (by simpa using h2))]
 · have h' : m = 0 := by simpa using h
   simp -implicitDefEqProofs only [h, h0, hw, evF, ↓evZ, implies_true, seval, tf_B1_126]
   rw [if_neg (by intro h3; exact h3.1 h')]
abbrev tf_B1_127 := zi tI_3 (zi zI_3 underlying3)
theorem c_l5Div (a b : Int) (ha : InR a) (hb : InR b) (h0 : b ≠ 0) (st : zy7) : zq7 prog 127 [.int .i64 a, .int .i64 b] st (fun r st' => r = .int .i64 (a.tdiv b) ∧ st' = st) := by
 have hl := tdiv_le a b ha
 have hw := wrap64 (n := a.tdiv b) (by omega) (by omega)
 refine wF [1000000] 2 func127 ntmps127 rfl rfl ?_
 intro _
 simp -implicitDefEqProofs only [h0, hw, evF, ↓evZ, implies_true, seval, tf_B1_127]
abbrev tf_B1_108 := zi tI_3 (zi zI_3 (zi underlying3 (zi tI_9 (zi zI_9 underlying9))))
theorem c_l5Op (s : ByteArray) (a b : Int) (hx : InR a) (hy : InR b) (st : zy7) : zq7 prog 108 [.str s, .int .i64 a, .int .i64 b] st (fun r st' => r = .tup [.int .i64 (arOp s a b).1, .int .i64 (arOp s a b).2] ∧ st' = st) := by
 have hMod := fun h0 => c_l5Mod a b hx hy h0
 have hDiv := fun h0 => c_l5Div a b hx hy h0
 unfold InR at hx hy
 have hmul : -998001 ≤ a * b ∧ a * b ≤ 998001 := by
  have h6 : (a * b).natAbs ≤ 998001 := by
   rw [Int.natAbs_mul]
   have := Nat.mul_le_mul (show a.natAbs ≤ 999 by omega) (show b.natAbs ≤ 999 by omega)
   omega
  omega
 have hw1 := wrap64 (n := a + b) (by omega) (by omega)
 have hw2 := wrap64 (n := a - b) (by omega) (by omega)
 have hw3 := wrap64 (n := a * b) (by omega) (by omega)
 unfold arOp
 refine wF [1000000] 3 func108 ntmps108 rfl rfl ?_
 intro _
 simp -implicitDefEqProofs only [hw1, hw2, hw3, evF, ↓evZ, implies_true, seval, tf_B1_108]
 refine zq4 (fun h6 => ?_) (fun h6 => ?_)
 · simp -implicitDefEqProofs only [hw1, hw2, hw3, evF, ↓evZ, implies_true, seval, tf_B1_108]
   rw [if_pos (by simpa using h6)]
   refine (c_l5Ranged _ _).to ?_
   simp -implicitDefEqProofs only [hw1, hw2, hw3, evF, ↓evZ, implies_true, seval, tf_B1_108]
 rw [if_neg (by simpa using h6)]
 simp -implicitDefEqProofs only [hw1, hw2, hw3, evF, ↓evZ, implies_true, seval, tf_B1_108]
 refine zq4 (fun h7 => ?_) (fun h7 => ?_)
 · simp -implicitDefEqProofs only [hw1, hw2, hw3, evF, ↓evZ, implies_true, seval, tf_B1_108]
   rw [if_pos (by simpa using h7)]
   refine (c_l5Ranged _ _).to ?_
   simp -implicitDefEqProofs only [hw1, hw2, hw3, evF, ↓evZ, implies_true, seval, tf_B1_108]
 rw [if_neg (by simpa using h7)]
 simp -implicitDefEqProofs only [hw1, hw2, hw3, evF, ↓evZ, implies_true, seval, tf_B1_108]
 refine zq4 (fun h9 => ?_) (fun h9 => ?_)
 · simp -implicitDefEqProofs only [hw1, hw2, hw3, evF, ↓evZ, implies_true, seval, tf_B1_108]
   rw [if_pos (by simpa using h9)]
   refine (c_l5Ranged _ _).to ?_
   simp -implicitDefEqProofs only [hw1, hw2, hw3, evF, ↓evZ, implies_true, seval, tf_B1_108]
 rw [if_neg (by simpa using h9)]
 simp -implicitDefEqProofs only [hw1, hw2, hw3, evF, ↓evZ, implies_true, seval, tf_B1_108]
 refine zq4 (fun h0 => ?_) (fun h0 => ?_)
 · simp -implicitDefEqProofs only [hw1, hw2, hw3, evF, ↓evZ, implies_true, seval, tf_B1_108]
   rw [if_pos (by simpa using h0)]
 have h0' : b ≠ 0 := by simpa using h0
 rw [if_neg h0']
 simp -implicitDefEqProofs only [hw1, hw2, hw3, evF, ↓evZ, implies_true, seval, tf_B1_108]
 refine zq4 (fun h10 => ?_) (fun h10 => ?_)
 · simp -implicitDefEqProofs only [hw1, hw2, hw3, evF, ↓evZ, implies_true, seval, tf_B1_108]
   rw [if_pos (by simpa using h10)]
   refine (hMod h0' _).to ?_
   simp -implicitDefEqProofs only [hw1, hw2, hw3, evF, ↓evZ, implies_true, seval, tf_B1_108]
 · simp -implicitDefEqProofs only [hw1, hw2, hw3, evF, ↓evZ, implies_true, seval, tf_B1_108]
   rw [if_neg (by simpa using h10)]
   refine (hDiv h0' _).to ?_
   simp -implicitDefEqProofs only [hw1, hw2, hw3, evF, ↓evZ, implies_true, seval, tf_B1_108]
theorem arLevel (s : ByteArray) : inN arNames s = decide (opLevel s = 1 ∨ opLevel s = 2) := by
 unfold inN arNames opLevel
 simp only [List.any_cons, List.any_nil, Bool.or_false]
 by_cases h1 : s = ⟨#[43]⟩
 · subst h1; decide
 by_cases h2 : s = ⟨#[45]⟩
 · subst h2; decide
 by_cases h3 : s = ⟨#[42]⟩
 · subst h3; decide
 by_cases h4 : s = ⟨#[47, 47]⟩
 · subst h4; decide
 by_cases h5 : s = ⟨#[109, 111, 100]⟩
 · subst h5; decide
 simp only [h1, h2, h3, h4, h5, decide_false, Bool.or_false, cond_false]
 cases (decide (s = ⟨#[61]⟩) || decide (s = ⟨#[92, 61]⟩) || decide (s = ⟨#[61, 61]⟩) || decide (s = ⟨#[60]⟩) || decide (s = ⟨#[62]⟩) || decide (s = ⟨#[61, 60]⟩) || decide (s = ⟨#[62, 61]⟩) || decide (s = ⟨#[61, 58, 61]⟩) || decide (s = ⟨#[105, 115]⟩)) <;> rfl
abbrev tf_B1_86 := zi tI_3 (zi zI_3 (zi underlying3 (zi tI_9 (zi zI_9 (zi underlying9 (zi tI_29 (zi zI_29 (zi eI_29 (zi eB_29 (zi eZ_29 (zi underlying29 (zi tI_56 (zi zI_56 (zi fI_56_0 (zi fI_56_1 (zi fI_56_2 (zi fI_56_3 bI_56)))))))))))))))))
theorem c_l5Arith {N : Int} : ∀ (t : Tm) (st : zy7), OkV N t → zq7 prog 86 [t.av] st (fun r st' => r = .tup [.int .i64 t.ev.1, .int .i64 t.ev.2] ∧ st' = st)
 | .mk k n s ts, st, hok => by
  obtain ⟨h1, h2⟩ := hok.all
  have IH := fun (x : Tm) (hx : x ∈ ts) st => c_l5Arith x st (h2 x hx)
  rw [Tm.ev_mk]
  simp only [Tm.av_mk]
  refine wF [1000000] 1 func86 ntmps86 rfl rfl ?_
  intro _
  simp -implicitDefEqProofs only [List.length_map, evF, ↓evZ, implies_true, seval, tf_B1_86]
  refine zq4 (fun hk1 => ?_) (fun hk1 => ?_)
  · simp -implicitDefEqProofs only [List.length_map, evF, ↓evZ, implies_true, seval, tf_B1_86]
    simp only [decide_eq_true_eq] at hk1
    rw [if_neg (by omega), if_pos hk1]
  simp only [decide_eq_false_iff_not] at hk1
  rw [if_neg hk1]
  simp -implicitDefEqProofs only [List.length_map, evF, ↓evZ, implies_true, seval, tf_B1_86]
  refine zq4 (fun hk => ?_) (fun hk => ?_)
  · simp -implicitDefEqProofs only [List.length_map, evF, ↓evZ, implies_true, seval, tf_B1_86]
    simp only [decide_eq_true_eq] at hk
    simp [hk]
  simp only [decide_eq_false_iff_not] at hk
  rw [if_neg hk]
  simp -implicitDefEqProofs only [List.length_map, evF, ↓evZ, implies_true, seval, tf_B1_86]
  refine (c_l2Level s _).to ?_
  simp -implicitDefEqProofs only [List.length_map, evF, ↓evZ, implies_true, seval, tf_B1_86]
  have hty : ∀ s0 : zy7, ts.length ≠ 2 ∨ inN arNames s = false → (if inN arNames s = true then two (arOp s) (ts.map Tm.ev) else (0, 3)) = ((0 : Int), (3 : Int)) := fun _ h => by
   split
   · rename_i h3
     rcases h with h | h
     · match ts, h with
       | [], _ => rfl
       | [x], _ => rfl
       | [x, y], h => simp at h
       | x :: y :: z :: l, _ => rfl
     · rw [h] at h3; cases h3
   · rfl
  refine zx4 (fun h => ?_) (fun h => ?_)
  case refine_2 =>
   simp -implicitDefEqProofs only [h, List.length_map, evF, ↓evZ, implies_true, seval, tf_B1_86]
   rw [hty st (.inl (by simp at h; omega))]
  simp -implicitDefEqProofs only [h, List.length_map, evF, ↓evZ, implies_true, seval, tf_B1_86]
  have hlev : inN arNames s = false → opLevel s ≠ 1 ∧ opLevel s ≠ 2 := fun h => by
   rw [arLevel] at h
   have := of_decide_eq_false h
   omega
  refine zx4 (fun h3 => ?_) (fun h3 => ?_)
  · simp -implicitDefEqProofs only [h3, List.length_map, evF, ↓evZ, implies_true, seval, tf_B1_86]
    have h3' : opLevel s ≠ 1 := by simp at h3; omega
    refine zq4 (fun h6 => ?_) (fun h6 => ?_)
    · have h6' : opLevel s ≠ 2 := by simp at h6; omega
      simp -implicitDefEqProofs only [List.length_map, evF, ↓evZ, implies_true, seval, tf_B1_86]
      rw [hty st (.inr (by rw [arLevel]; simp [h3', h6']))]
    · have h6' : opLevel s = 2 := by simp at h6; omega
      have hin : inN arNames s = true := by rw [arLevel]; simp [h6']
      simp -implicitDefEqProofs only [List.length_map, evF, ↓evZ, implies_true, seval, tf_B1_86]
      rw [if_pos hin]
      clear hty hlev
      obtain ⟨x, y, rfl⟩ := two_kids (by simpa using h)
      have hat0 : aIndexAddr prog 29 (.slice [x.av, y.av]) (.int .i64 0) = some (.pptr x.av) := ev_at (av := Tm.av) (l := [x, y]) (i := 0) eI_29 rfl (Tm.av_width x)
      have hat1 : aIndexAddr prog 29 (.slice [x.av, y.av]) (.int .i64 1) = some (.pptr y.av) := ev_at (av := Tm.av) (l := [x, y]) (i := 1) eI_29 rfl (Tm.av_width y)
      have hx := Tm.ev_in x (h2 x (by simp))
      have hy := Tm.ev_in y (h2 y (by simp))
      have IHx := fun st => IH x (by simp) st
      have IHy := fun st => IH y (by simp) st
      simp only [List.map_cons, List.map_nil, two, both]
      simp -implicitDefEqProofs only [hat0, hat1, Tm.av_agg, Tm.av_width, evF, ↓evZ, implies_true, seval, tf_B1_86]
      refine (IHx _).to ?_
      generalize x.ev.1 = a at *
      generalize x.ev.2 = ca at *
      generalize y.ev.1 = b at *
      generalize y.ev.2 = cb at *
      simp -implicitDefEqProofs only [hat0, hat1, Tm.av_agg, Tm.av_width, evF, ↓evZ, implies_true, seval, tf_B1_86]
      refine zq4 (fun h4 => ?_) (fun h4 => ?_)
      · simp -implicitDefEqProofs only [hat0, hat1, Tm.av_agg, Tm.av_width, evF, ↓evZ, implies_true, seval, tf_B1_86]
        have h4' : ca ≠ 0 := by simpa using h4
        rw [if_pos h4']
      have h4' : ca = 0 := by simpa using h4
      subst h4'
      rw [if_neg (by simp)]
      simp -implicitDefEqProofs only [hat0, hat1, Tm.av_agg, Tm.av_width, evF, ↓evZ, implies_true, seval, tf_B1_86]
      refine (IHy _).to ?_
      simp -implicitDefEqProofs only [hat0, hat1, Tm.av_agg, Tm.av_width, evF, ↓evZ, implies_true, seval, tf_B1_86]
      refine zq4 (fun h5 => ?_) (fun h5 => ?_)
      · simp -implicitDefEqProofs only [hat0, hat1, Tm.av_agg, Tm.av_width, evF, ↓evZ, implies_true, seval, tf_B1_86]
        have h5' : cb ≠ 0 := by simpa using h5
        rw [if_pos h5']
      have h5' : cb = 0 := by simpa using h5
      subst h5'
      rw [if_neg (by simp)]
      simp -implicitDefEqProofs only [hat0, hat1, Tm.av_agg, Tm.av_width, evF, ↓evZ, implies_true, seval, tf_B1_86]
      refine (c_l5Op s a b hx hy _).to ?_
      simp -implicitDefEqProofs only [hat0, hat1, Tm.av_agg, Tm.av_width, evF, ↓evZ, implies_true, seval, tf_B1_86]
  · have h3' : opLevel s = 1 := by simp at h3; omega
    have hin : inN arNames s = true := by rw [arLevel]; simp [h3']
    simp -implicitDefEqProofs only [h3, List.length_map, evF, ↓evZ, implies_true, seval, tf_B1_86]
    rw [if_pos hin]
    clear hty hlev
    obtain ⟨x, y, rfl⟩ := two_kids (by simpa using h)
    have hat0 : aIndexAddr prog 29 (.slice [x.av, y.av]) (.int .i64 0) = some (.pptr x.av) := ev_at (av := Tm.av) (l := [x, y]) (i := 0) eI_29 rfl (Tm.av_width x)
    have hat1 : aIndexAddr prog 29 (.slice [x.av, y.av]) (.int .i64 1) = some (.pptr y.av) := ev_at (av := Tm.av) (l := [x, y]) (i := 1) eI_29 rfl (Tm.av_width y)
    have hx := Tm.ev_in x (h2 x (by simp))
    have hy := Tm.ev_in y (h2 y (by simp))
    have IHx := fun st => IH x (by simp) st
    have IHy := fun st => IH y (by simp) st
    simp only [List.map_cons, List.map_nil, two, both]
    simp -implicitDefEqProofs only [hat0, hat1, Tm.av_agg, Tm.av_width, evF, ↓evZ, implies_true, seval, tf_B1_86]
    refine (IHx _).to ?_
    generalize x.ev.1 = a at *
    generalize x.ev.2 = ca at *
    generalize y.ev.1 = b at *
    generalize y.ev.2 = cb at *
    simp -implicitDefEqProofs only [hat0, hat1, Tm.av_agg, Tm.av_width, evF, ↓evZ, implies_true, seval, tf_B1_86]
    refine zq4 (fun h4 => ?_) (fun h4 => ?_)
    · simp -implicitDefEqProofs only [hat0, hat1, Tm.av_agg, Tm.av_width, evF, ↓evZ, implies_true, seval, tf_B1_86]
      have h4' : ca ≠ 0 := by simpa using h4
      rw [if_pos h4']
    have h4' : ca = 0 := by simpa using h4
    subst h4'
    rw [if_neg (by simp)]
    simp -implicitDefEqProofs only [hat0, hat1, Tm.av_agg, Tm.av_width, evF, ↓evZ, implies_true, seval, tf_B1_86]
    refine (IHy _).to ?_
    simp -implicitDefEqProofs only [hat0, hat1, Tm.av_agg, Tm.av_width, evF, ↓evZ, implies_true, seval, tf_B1_86]
    refine zq4 (fun h5 => ?_) (fun h5 => ?_)
    · simp -implicitDefEqProofs only [hat0, hat1, Tm.av_agg, Tm.av_width, evF, ↓evZ, implies_true, seval, tf_B1_86]
      have h5' : cb ≠ 0 := by simpa using h5
      rw [if_pos h5']
    have h5' : cb = 0 := by simpa using h5
    subst h5'
    rw [if_neg (by simp)]
    simp -implicitDefEqProofs only [hat0, hat1, Tm.av_agg, Tm.av_width, evF, ↓evZ, implies_true, seval, tf_B1_86]
    refine (c_l5Op s a b hx hy _).to ?_
    simp -implicitDefEqProofs only [hat0, hat1, Tm.av_agg, Tm.av_width, evF, ↓evZ, implies_true, seval, tf_B1_86]
termination_by t => SizeOf.sizeOf t
decreasing_by have := List.sizeOf_lt_of_mem hx; simp only [Tm.mk.sizeOf_spec]; omega
abbrev tf_V1_146 := zi tI_3 (zi zI_3 (zi underlying3 (zi tI_66 (zi zI_66 (zi eI_66 (zi eB_66 (zi eZ_66 underlying66)))))))
theorem c_IndexInt (l : List Int) (v : Int) (st : zy7) : zq7 prog 146 [.slice (l.map iv), .int .i64 v] st (fun r st' => r = .int .i64 (idxI v l 0) ∧ st' = st) := by
 refine wF [] 2 func146 ntmps146 rfl rfl ?_
 simp only [fitsL, AV.fits, and_true, List.length_map]
 intro ⟨hl, _⟩
 simp -implicitDefEqProofs only [List.length_map, evF, ↓evZ, implies_true, seval, tf_V1_146]
 refine zy5 (σ := Unit) [] [0, 1, 7] l (fun i _ => idxI v l 0 = idxI v (l.drop i) i) (fun i _ => [(8, .int .i64 i)]) (fun _ _ => st) (by decide +kernel) ⟨(), rfl, zx7.mk (by simp -implicitDefEqProofs only [evF, ↓evZ, implies_true, seval, tf_V1_146])⟩ (fun i x _ hx hlt hlt' hdr hinv => ?_) (fun _ hge hinv => ?_)
 case refine_2 =>
  simp -implicitDefEqProofs only [List.length_map, hge, evF, ↓evZ, implies_true, seval, tf_V1_146]
  rw [hinv, List.drop_length]
  rfl
 rw [hdr, idxI] at hinv
 have hw := wrap64 (n := (i : Int) + 1) (by omega) (by omega)
 simp -implicitDefEqProofs only [List.length_map, hlt', ev_at (av := iv) eI_66 hx rfl, evF, ↓evZ, implies_true, seval, tf_V1_146]
 refine zq4 (fun h => ?_) (fun h => ?_)
 · simp only [decide_eq_true_eq] at h
   rw [if_pos h] at hinv
   simp -implicitDefEqProofs only [hinv, evF, ↓evZ, implies_true, seval, tf_V1_146]
 · simp only [decide_eq_false_iff_not] at h
   rw [if_neg h] at hinv
   simp -implicitDefEqProofs only [evF, ↓evZ, implies_true, seval, tf_V1_146]
   exact ⟨(), by rw [hinv], zx7.mk (by simp -implicitDefEqProofs only [hw, evF, ↓evZ, implies_true, seval, tf_V1_146])⟩
abbrev tf_V1_129 := zi tI_3 (zi zI_3 (zi underlying3 (zi tI_4 (zi zI_4 (zi underlying4 (zi tI_66 (zi zI_66 (zi eI_66 (zi eB_66 (zi eZ_66 underlying66))))))))))
theorem c_ContainsInt (l : List Int) (v : Int) (st : zy7) : zq7 prog 129 [.slice (l.map iv), .int .i64 v] st (fun r st' => r = .bool (decide (v ∈ l)) ∧ st' = st) := by
 refine wF [] 2 func129 ntmps129 rfl rfl ?_
 intro _
 simp -implicitDefEqProofs only [evF, ↓evZ, implies_true, seval, tf_V1_129]
 refine (c_IndexInt l v st).to ?_
 simp -implicitDefEqProofs only [idxI_mem v l 0 (Int.le_refl 0), evF, ↓evZ, implies_true, seval, tf_V1_129]
theorem seenInts {st : zy7} {b : Nat} {l : List Int} {os xs : List AV} (h : Seen (accS st b (l.map iv)) none0' os xs) : Seen (accS st b (l.map iv)) none0' (accV 1 b (l.map iv) :: os) (.slice (l.map iv) :: xs) :=
 Seen.own (own_acc (OwnL.flat (by simp [AV.flat])) (by intro e h; simp only [List.mem_map] at h; obtain ⟨t, _, rfl⟩ := h; rfl)) h
def Grown (st : zy7) (l : List Int) (r : AV) (st' : zy7) : Prop := ∃ b', r = accV 1 b' (l.map iv) ∧ st' = accS st b' (l.map iv) ∧ (l.map iv ≠ [] → st b' = none)
abbrev tf_V1_112 := zi tI_3 (zi zI_3 (zi underlying3 (zi tI_4 (zi zI_4 (zi underlying4 (zi tI_29 (zi zI_29 (zi eI_29 (zi eB_29 (zi eZ_29 (zi underlying29 (zi tI_56 (zi zI_56 (zi fI_56_0 (zi fI_56_1 (zi fI_56_2 (zi fI_56_3 (zi bI_56 (zi tI_66 (zi zI_66 (zi eI_66 (zi eB_66 (zi eZ_66 underlying66)))))))))))))))))))))))
theorem c_addVars : ∀ (t : Tm) (l : List Int) (b : Nat) (st : zy7), (l.map iv ≠ [] → st b = none) → l.length + t.nodes ≤ 1099511627776 → zq7 prog 112 [t.av, accV 1 b (l.map iv)] (accS st b (l.map iv)) (Grown st (t.vars l))
 | .mk k n s ts, l, b, st, hb, hsz => by
  have IH := fun (x : Tm) (hx : x ∈ ts) => c_addVars x
  simp only [Tm.vars]
  rw [Tm.nodes_mk] at hsz
  refine wF [] 2 func112 ntmps112 rfl rfl ?_
  simp only [Tm.av_mk, fitsL, AV.fits, and_true, List.length_map]
  intro ⟨⟨_, _, _, hl, _⟩, _⟩
  simp -implicitDefEqProofs only [evF, ↓evZ, implies_true, seval, tf_V1_112]
  refine zx4 (fun h => ?_) (fun h => ?_)
  · simp only [decide_eq_true_eq] at h
    subst h
    simp -implicitDefEqProofs only [evF, ↓evZ, implies_true, seval, tf_V1_112]
    refine (zq7.see (fun s => c_ContainsInt l n s) (seenInts (Seen.same .nil)) rfl).to ?_
    simp -implicitDefEqProofs only [evF, ↓evZ, implies_true, seval, tf_V1_112]
    refine zq4 (fun h => ?_) (fun h => ?_)
    · simp only [Bool.not_eq_true', decide_eq_false_iff_not] at h
      rw [if_pos h]
      simp -implicitDefEqProofs only [evF, ↓evZ, implies_true, seval, tf_V1_112]
      refine acc_append eI_66 eB_66 eZ_66 rfl rfl (by intro e he; simp only [List.mem_cons, List.not_mem_nil, or_false] at he; subst he; exact ⟨rfl, rfl⟩) (by intro e h; simp only [List.mem_map] at h; obtain ⟨t, _, rfl⟩ := h; rfl) hb (by simp; omega) (by simp; omega) (fun b' hb' => ?_)
      rw [show l.map iv ++ [AV.int .i64 n] = (l ++ [n]).map iv by simp] at hb' ⊢
      simp -implicitDefEqProofs only [evF, ↓evZ, implies_true, seval, tf_V1_112]
      refine zy5 (σ := List Int × Nat) [] [4, 23, 24] ts (fun i p => tmsVars (ts.drop i) p.1 = tmsVars ts (l ++ [n]) ∧ p.1.length + sumL Tm.nodes (ts.drop i) ≤ 1099511627776 ∧ (p.1.map iv ≠ [] → st p.2 = none)) (fun i p => [(1, accV 1 p.2 (p.1.map iv)), (25, .int .i64 i)]) (fun _ p => accS st p.2 (p.1.map iv)) (by decide +kernel)
       ⟨(l ++ [n], b'), ⟨rfl, by simp; omega, hb'⟩, zx7.mk (by simp -implicitDefEqProofs only [List.length_map, evF, ↓evZ, implies_true, seval, tf_V1_112])⟩ (fun i x p hx hlt hlt' hdr hinv => ?_) (fun p hge hinv => ?_)
      case refine_2 =>
       simp -implicitDefEqProofs only [List.length_map, hge, evF, ↓evZ, implies_true, seval, tf_V1_112]
       rw [← hinv.1, List.drop_length]
       exact ⟨p.2, rfl, rfl, hinv.2.2⟩
      obtain ⟨acc, b⟩ := p
      rw [hdr] at hinv
      obtain ⟨i1, i2, i3⟩ := hinv
      simp only [sumL] at i2
      have hw := wrap64 (n := (i : Int) + 1) (by omega) (by omega)
      simp -implicitDefEqProofs only [List.length_map, hlt', ev_at (av := Tm.av) eI_29 hx (Tm.av_width x), Tm.av_agg, Tm.av_width, evF, ↓evZ, implies_true, seval, tf_V1_112]
      intro b2 hb2
      obtain ⟨hn2, hne⟩ := accS_none hb2
      have hc2 : [AV.int IntKind.i64 0, AV.int IntKind.i64 0, AV.str ⟨#[]⟩, AV.fslice []].length = 4 := rfl
      try simp -implicitDefEqProofs only [zy7.upd_upd, set_all (x := x.av.cells) (Tm.av_cells x) hc2, Tm.av_cells, Tm.av_store, take_all (Tm.av_cells x), agg_cells (Tm.av_agg x), Nat.le_refl, evF, ↓evZ, implies_true, seval, tf_V1_112]
      rw [accS_upd hne]
      refine (IH x (List.mem_of_getElem? hx) acc b _ (fun h => by rw [zy7.upd_ne _ _ (Ne.symm (hne h))]; exact i3 h) (by omega)).mono ?_
      rintro _ _ ⟨b', rfl, rfl, hb'⟩
      simp -implicitDefEqProofs only [hw, evF, ↓evZ, implies_true, seval, tf_V1_112]
      obtain ⟨hd, hb''⟩ := accS_drop (o := .cells x.av.cells) hn2 hb'
      have hvl := Tm.vars_len x acc
      refine ⟨(x.vars acc, b'), ⟨i1, by simp only; omega, hb''⟩, zx7.drop hd (by simp -implicitDefEqProofs only [evF, ↓evZ, implies_true, seval, tf_V1_112])⟩
    · simp only [Bool.not_eq_false', decide_eq_true_eq] at h
      rw [if_neg (by simp [h])]
      simp -implicitDefEqProofs only [evF, ↓evZ, implies_true, seval, tf_V1_112]
      refine zy5 (σ := List Int × Nat) [] [4, 23, 24] ts (fun i p => tmsVars (ts.drop i) p.1 = tmsVars ts (l) ∧ p.1.length + sumL Tm.nodes (ts.drop i) ≤ 1099511627776 ∧ (p.1.map iv ≠ [] → st p.2 = none)) (fun i p => [(1, accV 1 p.2 (p.1.map iv)), (25, .int .i64 i)]) (fun _ p => accS st p.2 (p.1.map iv)) (by decide +kernel)
       ⟨(l, b), ⟨rfl, by simp; omega, hb⟩, zx7.mk (by simp -implicitDefEqProofs only [List.length_map, evF, ↓evZ, implies_true, seval, tf_V1_112])⟩ (fun i x p hx hlt hlt' hdr hinv => ?_) (fun p hge hinv => ?_)
      case refine_2 =>
       simp -implicitDefEqProofs only [List.length_map, hge, evF, ↓evZ, implies_true, seval, tf_V1_112]
       rw [← hinv.1, List.drop_length]
       exact ⟨p.2, rfl, rfl, hinv.2.2⟩
      obtain ⟨acc, b⟩ := p
      rw [hdr] at hinv
      obtain ⟨i1, i2, i3⟩ := hinv
      simp only [sumL] at i2
      have hw := wrap64 (n := (i : Int) + 1) (by omega) (by omega)
      simp -implicitDefEqProofs only [List.length_map, hlt', ev_at (av := Tm.av) eI_29 hx (Tm.av_width x), Tm.av_agg, Tm.av_width, evF, ↓evZ, implies_true, seval, tf_V1_112]
      intro b2 hb2
      obtain ⟨hn2, hne⟩ := accS_none hb2
      have hc2 : [AV.int IntKind.i64 0, AV.int IntKind.i64 0, AV.str ⟨#[]⟩, AV.fslice []].length = 4 := rfl
      try simp -implicitDefEqProofs only [zy7.upd_upd, set_all (x := x.av.cells) (Tm.av_cells x) hc2, Tm.av_cells, Tm.av_store, take_all (Tm.av_cells x), agg_cells (Tm.av_agg x), Nat.le_refl, evF, ↓evZ, implies_true, seval, tf_V1_112]
      rw [accS_upd hne]
      refine (IH x (List.mem_of_getElem? hx) acc b _ (fun h => by rw [zy7.upd_ne _ _ (Ne.symm (hne h))]; exact i3 h) (by omega)).mono ?_
      rintro _ _ ⟨b', rfl, rfl, hb'⟩
      simp -implicitDefEqProofs only [hw, evF, ↓evZ, implies_true, seval, tf_V1_112]
      obtain ⟨hd, hb''⟩ := accS_drop (o := .cells x.av.cells) hn2 hb'
      have hvl := Tm.vars_len x acc
      refine ⟨(x.vars acc, b'), ⟨i1, by simp only; omega, hb''⟩, zx7.drop hd (by simp -implicitDefEqProofs only [evF, ↓evZ, implies_true, seval, tf_V1_112])⟩
  · simp only [Bool.not_true, decide_eq_false_iff_not] at h
    rw [if_neg (by simp [h])]
    simp -implicitDefEqProofs only [h, evF, ↓evZ, implies_true, seval, tf_V1_112]
    refine zy5 (σ := List Int × Nat) [] [4, 23, 24] ts (fun i p => tmsVars (ts.drop i) p.1 = tmsVars ts (l) ∧ p.1.length + sumL Tm.nodes (ts.drop i) ≤ 1099511627776 ∧ (p.1.map iv ≠ [] → st p.2 = none)) (fun i p => [(1, accV 1 p.2 (p.1.map iv)), (25, .int .i64 i)]) (fun _ p => accS st p.2 (p.1.map iv)) (by decide +kernel)
     ⟨(l, b), ⟨rfl, by simp; omega, hb⟩, zx7.mk (by simp -implicitDefEqProofs only [List.length_map, evF, ↓evZ, implies_true, seval, tf_V1_112])⟩ (fun i x p hx hlt hlt' hdr hinv => ?_) (fun p hge hinv => ?_)
    case refine_2 =>
     simp -implicitDefEqProofs only [List.length_map, hge, evF, ↓evZ, implies_true, seval, tf_V1_112]
     rw [← hinv.1, List.drop_length]
     exact ⟨p.2, rfl, rfl, hinv.2.2⟩
    obtain ⟨acc, b⟩ := p
    rw [hdr] at hinv
    obtain ⟨i1, i2, i3⟩ := hinv
    simp only [sumL] at i2
    have hw := wrap64 (n := (i : Int) + 1) (by omega) (by omega)
    simp -implicitDefEqProofs only [List.length_map, hlt', ev_at (av := Tm.av) eI_29 hx (Tm.av_width x), Tm.av_agg, Tm.av_width, evF, ↓evZ, implies_true, seval, tf_V1_112]
    intro b2 hb2
    obtain ⟨hn2, hne⟩ := accS_none hb2
    have hc2 : [AV.int IntKind.i64 0, AV.int IntKind.i64 0, AV.str ⟨#[]⟩, AV.fslice []].length = 4 := rfl
    try simp -implicitDefEqProofs only [zy7.upd_upd, set_all (x := x.av.cells) (Tm.av_cells x) hc2, Tm.av_cells, Tm.av_store, take_all (Tm.av_cells x), agg_cells (Tm.av_agg x), Nat.le_refl, evF, ↓evZ, implies_true, seval, tf_V1_112]
    rw [accS_upd hne]
    refine (IH x (List.mem_of_getElem? hx) acc b _ (fun h => by rw [zy7.upd_ne _ _ (Ne.symm (hne h))]; exact i3 h) (by omega)).mono ?_
    rintro _ _ ⟨b', rfl, rfl, hb'⟩
    simp -implicitDefEqProofs only [hw, evF, ↓evZ, implies_true, seval, tf_V1_112]
    obtain ⟨hd, hb''⟩ := accS_drop (o := .cells x.av.cells) hn2 hb'
    have hvl := Tm.vars_len x acc
    refine ⟨(x.vars acc, b'), ⟨i1, by simp only; omega, hb''⟩, zx7.drop hd (by simp -implicitDefEqProofs only [evF, ↓evZ, implies_true, seval, tf_V1_112])⟩
termination_by t => SizeOf.sizeOf t
decreasing_by have := List.sizeOf_lt_of_mem hx; simp only [Tm.mk.sizeOf_spec]; omega
abbrev tf_V4_100 := zi tI_3 (zi zI_3 (zi underlying3 (zi tI_29 (zi zI_29 (zi eI_29 (zi eB_29 (zi eZ_29 (zi underlying29 (zi tI_56 (zi zI_56 (zi fI_56_0 (zi fI_56_1 (zi fI_56_2 (zi fI_56_3 (zi bI_56 (zi tI_66 (zi zI_66 (zi eI_66 (zi eB_66 (zi eZ_66 underlying66))))))))))))))))))))
theorem c_varsOf (l : List Tm) (st : zy7) (hsz : sumL Tm.nodes l ≤ 1099511627776) : zq7 prog 100 [.slice (l.map Tm.av)] st (fun r st' => r = .slice ((tmsVars l []).map iv) ∧ st' = st) := by
 refine zq7.fin ?_
 refine wF [] 1 func100 ntmps100 rfl rfl ?_
 simp only [fitsL, AV.fits, and_true, List.length_map]
 intro ⟨hl, _⟩
 simp -implicitDefEqProofs only [List.length_map, evF, ↓evZ, implies_true, seval, tf_V4_100]
 refine zy5 (σ := List Int × Nat) [] [2, 6, 7] l (fun i p => tmsVars (l.drop i) p.1 = tmsVars l ([]) ∧ p.1.length + sumL Tm.nodes (l.drop i) ≤ 1099511627776 ∧ (p.1.map iv ≠ [] → st p.2 = none)) (fun i p => [(3, accV 1 p.2 (p.1.map iv)), (8, .int .i64 i)]) (fun _ p => accS st p.2 (p.1.map iv)) (by decide +kernel)
  ⟨([], 0), ⟨rfl, by simp; omega, by simp⟩, zx7.mk (by simp -implicitDefEqProofs only [List.length_map, List.map_nil, accV_nil, accS_nil, evF, ↓evZ, implies_true, seval, tf_V4_100])⟩ (fun i x p hx hlt hlt' hdr hinv => ?_) (fun p hge hinv => ?_)
 case refine_2 =>
  simp -implicitDefEqProofs only [List.length_map, hge, evF, ↓evZ, implies_true, seval, tf_V4_100]
  rw [← hinv.1, List.drop_length]
  exact ⟨p.2, p.1.map iv, st, rfl, hinv.2.2, by simp [AV.isJunk], ⟨1, iv_widths p.1⟩, accV_fin, rfl⟩
 obtain ⟨acc, b⟩ := p
 rw [hdr] at hinv
 obtain ⟨i1, i2, i3⟩ := hinv
 simp only [sumL] at i2
 have hw := wrap64 (n := (i : Int) + 1) (by omega) (by omega)
 simp -implicitDefEqProofs only [List.length_map, hlt', ev_at (av := Tm.av) eI_29 hx (Tm.av_width x), Tm.av_agg, Tm.av_width, evF, ↓evZ, implies_true, seval, tf_V4_100]
 intro b2 hb2
 obtain ⟨hn2, hne⟩ := accS_none hb2
 have hset : ∀ zs : List AV, zs.length = 4 → zy4 zs 0 x.av.cells = x.av.cells := fun zs h => set_all (Tm.av_cells x) h
 try simp -implicitDefEqProofs only [zy7.upd_upd, hset, Tm.av_cells, Tm.av_store, take_all (Tm.av_cells x), agg_cells (Tm.av_agg x), Nat.le_refl, evF, ↓evZ, implies_true, seval, tf_V4_100]
 rw [accS_upd hne]
 refine (c_addVars x acc b _ (fun h => by rw [zy7.upd_ne _ _ (Ne.symm (hne h))]; exact i3 h) (by omega)).mono ?_
 rintro _ _ ⟨b', rfl, rfl, hb'⟩
 simp -implicitDefEqProofs only [hw, evF, ↓evZ, implies_true, seval, tf_V4_100]
 obtain ⟨hd, hb''⟩ := accS_drop (o := .cells x.av.cells) hn2 hb'
 have hvl := Tm.vars_len x acc
 exact ⟨(x.vars acc, b'), ⟨i1, by simp only; omega, hb''⟩, zx7.drop hd (by simp -implicitDefEqProofs only [evF, ↓evZ, implies_true, seval, tf_V4_100])⟩
abbrev tf_V4_57 := zi tI_3 (zi zI_3 (zi underlying3 (zi tI_29 (zi zI_29 (zi eI_29 (zi eB_29 (zi eZ_29 (zi underlying29 (zi tI_56 (zi zI_56 (zi fI_56_0 (zi fI_56_1 (zi fI_56_2 (zi fI_56_3 (zi bI_56 (zi tI_66 (zi zI_66 (zi eI_66 (zi eB_66 (zi eZ_66 underlying66))))))))))))))))))))
theorem c_l1Vars : ∀ (t : Tm) (l : List Int) (b : Nat) (st : zy7), t.wf = true → (l.map iv ≠ [] → st b = none) → l.length + t.nodes ≤ 1099511627776 → zq7 prog 57 [accV 1 b (l.map iv), t.av] (accS st b (l.map iv)) (Grown st (t.vars l))
 | .mk k n s ts, l, b, st, hwf, hb, hsz => by
  obtain ⟨hk, hwfs⟩ := Tm.wf_mk hwf
  have IH := fun (x : Tm) (hx : x ∈ ts) l b st => c_l1Vars x l b st (hwfs x hx)
  have haL := accV_len (w := 1) (b := b) (l := l.map iv) underlying66
  simp only [Tm.vars]
  rw [Tm.nodes_mk] at hsz
  refine wF [] 2 func57 ntmps57 rfl rfl ?_
  simp only [Tm.av_mk, fitsL, AV.fits, and_true, List.length_map]
  intro ⟨_, ⟨_, _, _, hl, _⟩⟩
  simp -implicitDefEqProofs only [evF, ↓evZ, implies_true, seval, tf_V4_57]
  refine zq4 (fun h => ?_) (fun h => ?_)
  · simp only [decide_eq_true_eq] at h
    obtain rfl := hk h
    subst h
    simp -implicitDefEqProofs only [evF, ↓evZ, implies_true, seval, tf_V4_57]
    have hnn : l.length ≤ 1099511627776 := by omega
    refine zy5 (σ := Unit) [] [0, 3] l (fun i _ => ∀ y ∈ l.take i, y ≠ n) (fun i _ => [(5, .int .i64 i)]) (fun _ _ => accS st b (l.map iv)) (by decide +kernel) ⟨(), by simp, zx7.mk (by simp -implicitDefEqProofs only [evF, ↓evZ, implies_true, seval, tf_V4_57])⟩ (fun i x _ hx hlt hlt' hdr hinv => ?_) (fun _ hge hinv => ?_)
    case refine_2 =>
     rw [List.take_length] at hinv
     have hmem : n ∉ l := fun h => hinv n h rfl
     simp -implicitDefEqProofs only [haL, List.length_map, hge, evF, ↓evZ, implies_true, seval, tf_V4_57]
     refine acc_append eI_66 eB_66 eZ_66 rfl rfl (by intro e he; simp only [List.mem_cons, List.not_mem_nil, or_false] at he; subst he; exact ⟨rfl, rfl⟩) (iv_widths l) hb (by simp; omega) (by simp; omega) (fun b' hb' => ?_)
     rw [show l.map iv ++ [AV.int .i64 n] = (l ++ [n]).map iv by simp] at hb' ⊢
     simp -implicitDefEqProofs only [evF, ↓evZ, implies_true, seval, tf_V4_57]
     exact ⟨b', by simp [tmsVars, hmem], by simp [tmsVars, hmem], by simp only [tmsVars, hmem, not_false_eq_true, and_self, if_true]; exact hb'⟩
    have hat := acc_at (b := b) (l := l.map iv) (i := i) (x := iv x) eI_66 (by rw [List.getElem?_map, hx]; rfl)
    obtain ⟨hblk, hget⟩ := acc_blk (st := st) (b := b) hx
    have hw := wrap64 (n := (i : Int) + 1) (by omega) (by omega)
    simp -implicitDefEqProofs only [haL, List.length_map, hlt', evF, ↓evZ, implies_true, seval, tf_V4_57]
    refine arun_drawA mixed (by decide +kernel) (by decide +kernel) ?_
    simp -implicitDefEqProofs only [hat, hblk, hget, Nat.mul_one, evF, ↓evZ, implies_true, seval, tf_V4_57]
    refine zq4 (fun h => ?_) (fun h => ?_)
    · simp only [decide_eq_true_eq] at h
      subst h
      have hmem := List.mem_of_getElem? hx
      simp -implicitDefEqProofs only [evF, ↓evZ, implies_true, seval, tf_V4_57]
      exact ⟨b, by simp [tmsVars, hmem], by simp [tmsVars, hmem], by simp only [tmsVars, hmem, not_true_eq_false, and_false, if_false]; exact hb⟩
    · simp only [decide_eq_false_iff_not] at h
      simp -implicitDefEqProofs only [evF, ↓evZ, implies_true, seval, tf_V4_57]
      refine ⟨(), ?_, zx7.mk (by simp -implicitDefEqProofs only [hw, evF, ↓evZ, implies_true, seval, tf_V4_57])⟩
      intro y hy
      rw [List.take_add_one, hx] at hy
      rcases List.mem_append.1 hy with hy | hy
      · exact hinv y hy
      · simp at hy; subst hy; exact h
  · simp only [decide_eq_false_iff_not] at h
    rw [if_neg (by simp [h])]
    simp -implicitDefEqProofs only [evF, ↓evZ, implies_true, seval, tf_V4_57]
    refine zy5 (σ := List Int × Nat) [] [3, 4] ts (fun i p => tmsVars (ts.drop i) p.1 = tmsVars ts l ∧ p.1.length + sumL Tm.nodes (ts.drop i) ≤ 1099511627776 ∧ (p.1.map iv ≠ [] → st p.2 = none)) (fun i p => [(0, accV 1 p.2 (p.1.map iv)), (6, .int .i64 i)]) (fun _ p => accS st p.2 (p.1.map iv)) (by decide +kernel)
     ⟨(l, b), ⟨rfl, by simp; omega, hb⟩, zx7.mk (by simp -implicitDefEqProofs only [List.length_map, evF, ↓evZ, implies_true, seval, tf_V4_57])⟩ (fun i x p hx hlt hlt' hdr hinv => ?_) (fun p hge hinv => ?_)
    case refine_2 =>
     simp -implicitDefEqProofs only [List.length_map, hge, evF, ↓evZ, implies_true, seval, tf_V4_57]
     rw [← hinv.1, List.drop_length]
     exact ⟨p.2, rfl, rfl, hinv.2.2⟩
    obtain ⟨acc, b⟩ := p
    rw [hdr] at hinv
    obtain ⟨i1, i2, i3⟩ := hinv
    simp only [sumL] at i2
    have hw := wrap64 (n := (i : Int) + 1) (by omega) (by omega)
    simp -implicitDefEqProofs only [List.length_map, hlt', ev_at (av := Tm.av) eI_29 hx (Tm.av_width x), Tm.av_agg, Tm.av_width, evF, ↓evZ, implies_true, seval, tf_V4_57]
    refine (IH x (List.mem_of_getElem? hx) acc b st i3 (by omega)).mono ?_
    rintro _ _ ⟨b', rfl, rfl, hb'⟩
    have hvl := Tm.vars_len x acc
    simp -implicitDefEqProofs only [hw, evF, ↓evZ, implies_true, seval, tf_V4_57]
    exact ⟨(x.vars acc, b'), ⟨i1, by simp only; omega, hb'⟩, zx7.mk (by simp -implicitDefEqProofs only [evF, ↓evZ, implies_true, seval, tf_V4_57])⟩
termination_by t => SizeOf.sizeOf t
decreasing_by have := List.sizeOf_lt_of_mem hx; simp only [Tm.mk.sizeOf_spec]; omega
theorem arr_reads {A C B : List AV} {n : Nat} (hA : A.length = n) (hC : C.length = 4) :
 (n + 4 ≤ (A ++ C ++ B).length) ∧ List.take 4 (List.drop n (A ++ C ++ B)) = C ∧ (A ++ C ++ B)[n + 0]? = C[0]? := by
 refine ⟨by simp only [List.length_append]; omega, ?_, (midE (A := A) (B := B) hA).2.2.1 C 0 (by omega)⟩
 rw [← hA, List.append_assoc, List.drop_left, ← hC, List.take_left]
abbrev OkN (t : Tm) : Prop := t.okA = true ∧ t.nodes ≤ 120
end Go.AW
namespace Go.AW
def itm (n : Int) : Tm := .mk 2 n ⟨#[]⟩ []
theorem itm_valid {n : Int} (h : InR n) : (itm n).valid = true := by
 have ho : (itm n).okA = true := by
  unfold itm
  rw [Tm.okA_mk]
  simp [ownOk, h.1, h.2]
 rw [Tm.valid_iff ho]
 simp [itm, Tm.nodes_mk, sumL, Tm.flat_succ]
def codeB (b : Bool) : Int := if b = true then 0 else 1
def cmpH (s : ByteArray) (a b : Int) : Bool :=
 if s = ⟨#[60]⟩ then decide (a < b) else if s = ⟨#[62]⟩ then decide (b < a) else if s = ⟨#[61, 60]⟩ then decide (a ≤ b) else if s = ⟨#[62, 61]⟩ then decide (b ≤ a) else decide (a = b)
def testB (s : ByteArray) (x : Tm) : Bool :=
 if s = ⟨#[118, 97, 114]⟩ then decide (x.k = 1) else if s = ⟨#[110, 111, 110, 118, 97, 114]⟩ then !decide (x.k = 1) else if s = ⟨#[97, 116, 111, 109]⟩ then decide (x.k = 3) && decide ((x.ts.length : Int) = 0) else decide (x.k = 2)
def cmpC (s : ByteArray) (x y : Tm) : Int := (both (fun a b => (0, codeB (cmpH s a b))) x.ev y.ev).2
def argT (x y : Tm) : Option Tm := if 1 ≤ x.n ∧ x.n ≤ y.ts.length then y.ts[(x.n - 1).toNat]? else none
structure SolB (σ : Sub) : Prop where
 good : IsGood σ
 okA : AllS (fun t => t.okA = true) σ
 okN : AllS OkN σ
theorem argT_mem {x y u : Tm} (h : argT x y = some u) : u ∈ y.ts := by
 unfold argT at h
 split at h
 · exact List.mem_of_getElem? h
 · cases h
theorem bi_cases {s : ByteArray} {n : Nat} (h : isBuiltin s (n : Int) = true) :
 (n = 2 ∧ (inN cmpNames s = true ∨ s = ⟨#[61]⟩ ∨ s = ⟨#[92, 61]⟩ ∨ s = ⟨#[61, 61]⟩ ∨ s = ⟨#[105, 115]⟩)) ∨ (n = 0 ∧ (s = ⟨#[116, 114, 117, 101]⟩ ∨ s = ⟨#[102, 97, 105, 108]⟩)) ∨
 (n = 1 ∧ (s = ⟨#[118, 97, 114]⟩ ∨ s = ⟨#[110, 111, 110, 118, 97, 114]⟩ ∨ s = ⟨#[97, 116, 111, 109]⟩ ∨ s = ⟨#[105, 110, 116]⟩)) ∨ (n = 3 ∧ s = ⟨#[97, 114, 103]⟩) := by
 unfold isBuiltin at h
 simp only [cond_eq_ite] at h
 split at h
 · rename_i h1
   left
   refine ⟨by simp at h; omega, ?_⟩
   simp only [Bool.or_eq_true, decide_eq_true_eq] at h1
   simp only [inN, cmpNames, List.any_cons, List.any_nil, Bool.or_eq_true, decide_eq_true_eq, Bool.false_eq_true, or_false]
   rcases h1 with (((((((h1 | h1) | h1) | h1) | h1) | h1) | h1) | h1) | h1 <;> simp [h1]
 split at h
 · rename_i h1
   right; left
   refine ⟨by simp at h; omega, ?_⟩
   simpa using h1
 split at h
 · rename_i h1
   right; right; left
   refine ⟨by simp at h; omega, ?_⟩
   simp only [Bool.or_eq_true, decide_eq_true_eq] at h1
   rcases h1 with ((h1 | h1) | h1) | h1 <;> simp [h1]
 split at h
 · rename_i h1
   right; right; right
   exact ⟨by simp at h; omega, by simpa using h1⟩
 · cases h
end Go.AW
