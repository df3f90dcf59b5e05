import Derived.Test.YtaifeijnedoboaaCbFink
import Derived.Test.YtaifeijnedoboaaCbFinj

namespace Go.AW
open Go.Proofs.Try
set_option linter.unusedSimpArgs false
set_option maxRecDepth 100000
abbrev OkA (t : Tm) : Prop := t.okA = true
theorem arr_reads {A C B : List AV} {n : Nat} (hA : A.length = n) (hC : C.length = 4) :
    (n + 4 ≤ (A ++ C ++ B).length) ∧ List.take 4 (List.drop n (A ++ C ++ B)) = C ∧ (A ++ C ++ B)[n + 0]? = C[0]? := by
  refine ⟨by simp only [List.length_append]; omega, ?_, (midE (A := A) (B := B) hA).2.2.1 C 0 (by omega)⟩
  rw [← hA, List.append_assoc, List.drop_left, ← hC, List.take_left]
theorem ArrAt.none {st : zy7} {b : Nat} {σ : Sub} (h : ArrAt st b σ) {i : Nat} (hi : i < 26) (hn : σ (i : Int) = Option.none) :
    ∃ D, st b = some (.cells D) ∧ D[i * 4 + 0]? = some (.int .i64 0) ∧ i * 4 + 4 ≤ D.length := by
  obtain ⟨A, B, e1, e2, _⟩ := h.mid hi
  rw [hn] at e1
  obtain ⟨r1, r2, r3⟩ := arr_reads (B := B) (C := (cellOf Option.none).cells) e2 rfl
  exact ⟨_, e1, r3, r1⟩
theorem ArrAt.some {st : zy7} {b : Nat} {σ : Sub} (h : ArrAt st b σ) {i : Nat} (hi : i < 26) {k n : Int} {s : ByteArray} {ts : List Tm} (hn : σ (i : Int) = Option.some (.mk k n s ts)) :
    ∃ D, st b = Option.some (.cells D) ∧ D[i * 4 + 0]? = Option.some (.int .i64 k) ∧ i * 4 + 4 ≤ D.length ∧ List.take 4 (List.drop (i * 4) D) = [.int .i64 k, .int .i64 n, .str s, .slice (ts.map Tm.av)] := by
  obtain ⟨A, B, e1, e2, _⟩ := h.mid hi
  rw [hn] at e1
  simp only [cellOf, Tm.av_mk, AV.cells] at e1
  obtain ⟨r1, r2, r3⟩ := arr_reads (B := B) (C := [.int .i64 k, .int .i64 n, .str s, .slice (ts.map Tm.av)]) e2 rfl
  exact ⟨_, e1, r3, r1, r2⟩
theorem ArrAt.set {st : zy7} {b : Nat} {σ : Sub} (h : ArrAt st b σ) {i : Nat} (hi : i < 26) (u : Tm) :
    ∃ D D', st b = Option.some (.cells D) ∧ i * 4 + 4 ≤ D.length ∧ zy4 D (i * 4) u.av.cells = D' ∧ ArrAt (st.upd b (.cells D')) b (σ.set (i : Int) u) := by
  obtain ⟨A, B, e1, e2, e3⟩ := h.mid hi
  obtain ⟨p1, p2⟩ := partE (B := B) (C := (cellOf (σ (i : Int))).cells) (x := u.av.cells) e2 (cellOf_cells _) (Tm.av_cells u)
  exact ⟨_, _, e1, p2, p1, e3 u⟩
abbrev tf_P1_60 := And.intro tI_2 (And.intro zI_2 (And.intro underlying2 (And.intro tI_3 (And.intro zI_3 (And.intro underlying3 (And.intro tI_4 (And.intro zI_4 (And.intro underlying4 (And.intro tI_5 (And.intro zI_5 (And.intro underlying5 (And.intro tI_6 (And.intro zI_6 (And.intro underlying6 (And.intro tI_7 (And.intro zI_7 (And.intro fI_7_0 (And.intro fI_7_1 (And.intro fI_7_2 (And.intro fI_7_3 (And.intro bI_7 (And.intro tI_10 (And.intro zI_10 (And.intro underlying10 (And.intro tI_11 (And.intro zI_11 (And.intro underlying11 (And.intro tI_12 (And.intro zI_12 (And.intro underlying12 (And.intro tI_23 (And.intro zI_23 (And.intro eI_23 (And.intro eB_23 (And.intro eZ_23 (And.intro underlying23 (And.intro tI_25 (And.intro zI_25 (And.intro fI_25_0 (And.intro fI_25_1 (And.intro fI_25_2 (And.intro fI_25_3 bI_25))))))))))))))))))))))))))))))))))))))))))
theorem c_l3Walk {σ : Sub} (hok : AllS OkA σ) {f : Nat} {t u : Tm} (hw : WkN σ f t u) (ht : OkA t) (b : Nat) (st : zy7) (hS : ArrAt st b σ) : zq7 prog 60 [t.av, .mslice b 0 26 4] st (fun r st' => r = u.av ∧ st' = st) := by
  refine zq7.done ?_
  refine zw6 [1000000, 2] func60 ntmps60 rfl rfl (by kernel_rfl) (by decide +kernel) (by show 2 ≤ _; decide +kernel) ?_
  intro _
  simp -implicitDefEqProofs only [zy4, evE, ↓evZ2, ↓evZ3, ↓Int.cast_ofNat_Int, implies_true, zy2, aFn, List.contains, List.elem, zq3, zy1, zq2, sub, zx3, zw2, zw3, zy3, gd, zq1, zw0, zq0, zx0, zx2, zx1, zy0, zw1, List.range', ↓reduceIte, reduceCtorEq, Nat.reduceEqDiff, Nat.reduceAdd, Nat.reduceLeDiff, Nat.reduceMul, Nat.reduceLT, Nat.reduceBEq, Int.reduceEq, tf_P1_60]
  intro b2 h2 b4 h4
  have hne : b4 ≠ b2 := by rintro rfl; rw [zy7.upd_same] at h4; cases h4
  have hn4 : st b4 = none := by rw [zy7.upd_ne st _ hne] at h4; exact h4
  have hb2 : b2 ≠ b := by rintro rfl; rw [ArrAt, h2] at hS; cases hS
  have hb4 : b4 ≠ b := by rintro rfl; rw [ArrAt, hn4] at hS; cases hS
  refine zw5 (σ := Nat × Tm) [1000000, 2] [1, 2, 4] (fun p => WkN σ p.1 p.2 u ∧ OkA p.2) (fun p => []) (fun p => (st.upd b2 (.cells p.2.av.cells)).upd b4 (.cells [.int .i64 0, .int .i64 0, .str ⟨#[]⟩, .fslice []])) (fun p => p.1) (by decide +kernel) ⟨(f, t), ⟨hw, ht⟩, zx7.mk (by simp -implicitDefEqProofs only [zy4, evE, ↓evZ2, ↓evZ3, ↓Int.cast_ofNat_Int, implies_true, zy2, aFn, List.contains, List.elem, zq3, zy1, zq2, sub, zx3, zw2, zw3, zy3, gd, zq1, zw0, zq0, zx0, zx2, zx1, zy0, zw1, List.range', ↓reduceIte, reduceCtorEq, Nat.reduceEqDiff, Nat.reduceAdd, Nat.reduceLeDiff, Nat.reduceMul, Nat.reduceLT, Nat.reduceBEq, Int.reduceEq, tf_P1_60])⟩ ?_
  rintro ⟨g, t⟩ ⟨hw, ht⟩
  obtain ⟨k, n, s, ts⟩ := t
  simp only at hw ht
  simp only [Tm.av_mk]
  have hend : k ≠ 1 ∨ σ n = none → u = .mk k n s ts := fun h => by
    cases hw with
    | stop _ => rfl
    | go h1 h2 _ =>
      simp only [Tm.k] at h1
      rcases h with h | h
      · exact absurd h1 h
      · rw [show σ n = some _ from h2] at h; cases h
  simp -implicitDefEqProofs only [zy4, hne, hne.symm, hb2.symm, hb4.symm, hb2, hb4, evE, ↓evZ2, ↓evZ3, ↓Int.cast_ofNat_Int, implies_true, zy2, aFn, List.contains, List.elem, zq3, zy1, zq2, sub, zx3, zw2, zw3, zy3, gd, zq1, zw0, zq0, zx0, zx2, zx1, zy0, zw1, List.range', ↓reduceIte, reduceCtorEq, Nat.reduceEqDiff, Nat.reduceAdd, Nat.reduceLeDiff, Nat.reduceMul, Nat.reduceLT, Nat.reduceBEq, Int.reduceEq, tf_P1_60]
  refine zx4 (fun h => ?_) (fun h => ?_)
  case refine_2 =>
    simp -implicitDefEqProofs only [h, zy4, hne, hne.symm, hb2.symm, hb4.symm, hb2, hb4, evE, ↓evZ2, ↓evZ3, ↓Int.cast_ofNat_Int, implies_true, zy2, aFn, List.contains, List.elem, zq3, zy1, zq2, sub, zx3, zw2, zw3, zy3, gd, zq1, zw0, zq0, zx0, zx2, zx1, zy0, zw1, List.range', ↓reduceIte, reduceCtorEq, Nat.reduceEqDiff, Nat.reduceAdd, Nat.reduceLeDiff, Nat.reduceMul, Nat.reduceLT, Nat.reduceBEq, Int.reduceEq, tf_P1_60]
    simp only [Bool.not_true, decide_eq_false_iff_not] at h
    rw [hend (.inl h), ← Tm.av_mk]
    exact ⟨Tm.soft _, ((Drops.refl _).upd h2).upd hn4⟩
  simp only [decide_eq_true_eq] at h
  subst h
  obtain ⟨hn0, hn1, _⟩ := ownOk_var (Tm.okA_own ht).1
  obtain ⟨i, rfl⟩ : ∃ i : Nat, n = i := ⟨n.toNat, by omega⟩
  have hi : i < 26 := by omega
  have hi' : decide ((i : Int) < 26) = true := by simp; omega
  simp -implicitDefEqProofs only [decide_true, hi', beq_self_eq_true, zy4, hne, hne.symm, hb2.symm, hb4.symm, hb2, hb4, evE, ↓evZ2, ↓evZ3, ↓Int.cast_ofNat_Int, implies_true, zy2, aFn, List.contains, List.elem, zq3, zy1, zq2, sub, zx3, zw2, zw3, zy3, gd, zq1, zw0, zq0, zx0, zx2, zx1, zy0, zw1, List.range', ↓reduceIte, reduceCtorEq, Nat.reduceEqDiff, Nat.reduceAdd, Nat.reduceLeDiff, Nat.reduceMul, Nat.reduceLT, Nat.reduceBEq, Int.reduceEq, tf_P1_60]
  have hat := held_at (P := prog) (b := b) (len := 26) eI_23 hi
  cases hw with
  | stop hs =>
    obtain ⟨D, e1, e2, _⟩ := hS.none hi (hs rfl)
    simp -implicitDefEqProofs only [hat, e1, e2, decide_true, zy4, hne, hne.symm, hb2.symm, hb4.symm, hb2, hb4, evE, ↓evZ2, ↓evZ3, ↓Int.cast_ofNat_Int, implies_true, zy2, aFn, List.contains, List.elem, zq3, zy1, zq2, sub, zx3, zw2, zw3, zy3, gd, zq1, zw0, zq0, zx0, zx2, zx1, zy0, zw1, List.range', ↓reduceIte, reduceCtorEq, Nat.reduceEqDiff, Nat.reduceAdd, Nat.reduceLeDiff, Nat.reduceMul, Nat.reduceLT, Nat.reduceBEq, Int.reduceEq, tf_P1_60]
    exact ⟨by rw [← Tm.av_mk, Tm.soft], ((Drops.refl _).upd h2).upd hn4⟩
  | go h1 h2' h3 =>
    simp only [Tm.n] at h2'
    have ho := hok _ _ h2'
    rename_i g' u'
    obtain ⟨k', n', s', ts'⟩ := u'
    have hk' : ¬ k' = 0 := by have := (ownOk_kind (Tm.okA_own ho).1).1; omega
    obtain ⟨D, e1, e2, e3, e4⟩ := hS.some hi h2'
    have e5 : i * 4 + 0 + 4 ≤ D.length := e3
    simp -implicitDefEqProofs only [hat, e1, e2, e3, e4, hk', decide_false, zy4, hne, hne.symm, hb2.symm, hb4.symm, hb2, hb4, evE, ↓evZ2, ↓evZ3, ↓Int.cast_ofNat_Int, implies_true, zy2, aFn, List.contains, List.elem, zq3, zy1, zq2, sub, zx3, zw2, zw3, zy3, gd, zq1, zw0, zq0, zx0, zx2, zx1, zy0, zw1, List.range', ↓reduceIte, reduceCtorEq, Nat.reduceEqDiff, Nat.reduceAdd, Nat.reduceLeDiff, Nat.reduceMul, Nat.reduceLT, Nat.reduceBEq, Int.reduceEq, tf_P1_60]
    rw [zy7.upd_mid hne, zy7.upd_comm _ _ _ hne]
    refine ⟨(g', .mk k' n' s' ts'), Nat.lt_succ_self _, ⟨h3, ho⟩, ?_⟩
    simp only [Tm.av_mk]
    exact zx7.mk (by simp -implicitDefEqProofs only [zy4, hne, hne.symm, hb2.symm, hb4.symm, hb2, hb4, evE, ↓evZ2, ↓evZ3, ↓Int.cast_ofNat_Int, implies_true, zy2, aFn, List.contains, List.elem, zq3, zy1, zq2, sub, zx3, zw2, zw3, zy3, gd, zq1, zw0, zq0, zx0, zx2, zx1, zy0, zw1, List.range', ↓reduceIte, reduceCtorEq, Nat.reduceEqDiff, Nat.reduceAdd, Nat.reduceLeDiff, Nat.reduceMul, Nat.reduceLT, Nat.reduceBEq, Int.reduceEq, tf_P1_60])
theorem ArrAt.acc {st : zy7} {b bW : Nat} {σ : Sub} {l : List AV} (h : ArrAt st b σ) (hb : l ≠ [] → st bW = Option.none) : ArrAt (accS st bW l) b σ := by
  cases l with
  | nil => exact h
  | cons x l => exact h.upd (by rintro rfl; rw [ArrAt, hb (by simp)] at h; cases h)
abbrev OkN (t : Tm) : Prop := t.okA = true ∧ t.nodes ≤ 120
theorem okN_kids : ∀ t : Tm, t.k ≠ 1 → OkN t → ∀ x ∈ t.ts, OkN x := fun t hk h x hx => by
  refine ⟨okA_kids t hk h.1 x hx, ?_⟩
  have h2 := h.2
  cases t
  rw [Tm.nodes_mk] at h2
  have := sumL_mem (f := Tm.nodes) hx
  simp only [Tm.ts] at this
  omega
abbrev tf_P1_72 := And.intro tI_2 (And.intro zI_2 (And.intro underlying2 (And.intro tI_3 (And.intro zI_3 (And.intro underlying3 (And.intro tI_4 (And.intro zI_4 (And.intro underlying4 (And.intro tI_5 (And.intro zI_5 (And.intro underlying5 (And.intro tI_6 (And.intro zI_6 (And.intro underlying6 (And.intro tI_7 (And.intro zI_7 (And.intro fI_7_0 (And.intro fI_7_1 (And.intro fI_7_2 (And.intro fI_7_3 (And.intro bI_7 (And.intro tI_8 (And.intro zI_8 (And.intro fI_8_0 (And.intro fI_8_1 (And.intro fI_8_2 (And.intro fI_8_3 (And.intro bI_8 (And.intro tI_9 (And.intro zI_9 (And.intro underlying9 (And.intro tI_10 (And.intro zI_10 (And.intro underlying10 (And.intro tI_11 (And.intro zI_11 (And.intro underlying11 (And.intro tI_12 (And.intro zI_12 (And.intro underlying12 (And.intro tI_13 (And.intro zI_13 (And.intro fI_13_0 (And.intro fI_13_1 (And.intro bI_13 (And.intro tI_15 (And.intro zI_15 (And.intro tI_16 (And.intro zI_16 (And.intro tI_21 (And.intro zI_21 (And.intro underlying21 (And.intro tI_23 (And.intro zI_23 (And.intro eI_23 (And.intro eB_23 (And.intro eZ_23 (And.intro underlying23 (And.intro tI_25 (And.intro zI_25 (And.intro fI_25_0 (And.intro fI_25_1 (And.intro fI_25_2 (And.intro fI_25_3 (And.intro bI_25 (And.intro tI_27 (And.intro zI_27 (And.intro eI_27 (And.intro eB_27 (And.intro eZ_27 (And.intro underlying27 (And.intro tI_48 (And.intro zI_48 (And.intro fI_48_0 (And.intro fI_48_1 (And.intro bI_48 (And.intro tI_49 (And.intro zI_49 (And.intro fI_49_0 (And.intro fI_49_1 (And.intro bI_49 (And.intro tI_61 (And.intro zI_61 (And.intro eI_61 (And.intro eB_61 (And.intro eZ_61 underlying61))))))))))))))))))))))))))))))))))))))))))))))))))))))))))))))))))))))))))))))))))))))
theorem c_l3Within {σ : Sub} {R : Int → Tm} {rk : Int → Nat} {B : Nat} (G : Good σ R rk B) (hok : AllS OkN σ) {n : Int} (hn : σ n = none) (t : Tm) (ht : OkN t) (b : Nat) (st : zy7) (hS : ArrAt st b σ) :
    zq7 prog 72 [.int .i64 n, t.av, .mslice b 0 26 4] st (fun r st' => r = .bool (decide (n ∈ (t.mapv R).vl)) ∧ st' = st) := by
  refine zq7.done ?_
  refine zw6 [1000000] func72 ntmps72 rfl rfl (by kernel_rfl) (by decide +kernel) (by show 3 ≤ _; decide +kernel) ?_
  intro _
  simp -implicitDefEqProofs only [zy4, evE, ↓evZ2, ↓evZ3, ↓Int.cast_ofNat_Int, implies_true, zy2, aFn, List.contains, List.elem, zq3, zy1, zq2, sub, zx3, zw2, zw3, zy3, gd, zq1, zw0, zq0, zx0, zx2, zx1, zy0, zw1, List.range', ↓reduceIte, reduceCtorEq, Nat.reduceEqDiff, Nat.reduceAdd, Nat.reduceLeDiff, Nat.reduceMul, Nat.reduceLT, Nat.reduceBEq, Int.reduceEq, tf_P1_72]
  have h0 := c_l1Vars t [] 0 st (Tm.cv_wf t (Tm.okA_cv t ht.1)) (fun h => absurd rfl h) (by have := ht.2; simp only [List.length_nil]; omega)
  simp only [List.map_nil, accV_nil, accS_nil] at h0
  refine h0.mono ?_
  rintro _ _ ⟨b0, rfl, rfl, hb0⟩
  obtain ⟨v1, v2, _⟩ := vars_spec t (Tm.cv_wf t (Tm.okA_cv t ht.1)) []
  simp -implicitDefEqProofs only [zy4, evE, ↓evZ2, ↓evZ3, ↓Int.cast_ofNat_Int, implies_true, zy2, aFn, List.contains, List.elem, zq3, zy1, zq2, sub, zx3, zw2, zw3, zy3, gd, zq1, zw0, zq0, zx0, zx2, zx1, zy0, zw1, List.range', ↓reduceIte, reduceCtorEq, Nat.reduceEqDiff, Nat.reduceAdd, Nat.reduceLeDiff, Nat.reduceMul, Nat.reduceLT, Nat.reduceBEq, Int.reduceEq, tf_P1_72]
  refine zw5 (σ := Nat × List Int × Nat) [1000000] [0, 2]
    (fun p => p.1 ≤ p.2.1.length ∧ p.2.1.Nodup ∧ (∀ w ∈ p.2.1, w ∈ V25) ∧ (p.2.1.map iv ≠ [] → st p.2.2 = none) ∧ (∀ w ∈ p.2.1.take p.1, w ≠ n ∧ ∀ u, σ w = some u → ∀ v ∈ u.vl, v ∈ p.2.1) ∧ (∀ w ∈ p.2.1, n ∈ (R w).vl → n ∈ (t.mapv R).vl) ∧ (n ∈ (t.mapv R).vl → ∃ w ∈ p.2.1, n ∈ (R w).vl))
    (fun p => [(6, .bool false), (7, accV 1 p.2.2 (p.2.1.map iv)), (8, .int .i64 p.1)]) (fun p => accS st p.2.2 (p.2.1.map iv)) (fun p => 26 - p.1) (by decide +kernel)
    ⟨(0, t.vars [], b0), ⟨Nat.zero_le _, v2 List.nodup_nil, fun w hw => ?_, hb0, by simp, fun w hw hm => ?_, fun hm => ?_⟩, zx7.mk (by simp -implicitDefEqProofs only [zy4, evE, ↓evZ2, ↓evZ3, ↓Int.cast_ofNat_Int, implies_true, zy2, aFn, List.contains, List.elem, zq3, zy1, zq2, sub, zx3, zw2, zw3, zy3, gd, zq1, zw0, zq0, zx0, zx2, zx1, zy0, zw1, List.range', ↓reduceIte, reduceCtorEq, Nat.reduceEqDiff, Nat.reduceAdd, Nat.reduceLeDiff, Nat.reduceMul, Nat.reduceLT, Nat.reduceBEq, Int.reduceEq, tf_P1_72])⟩ ?_
  · rcases (v1 w).1 hw with h | h
    · cases h
    · exact Tm.okA_inV t ht.1 w h
  · rcases (v1 w).1 hw with h | h
    · cases h
    · exact (vl_mapv t).2 ⟨w, h, hm⟩
  · obtain ⟨w, hw, hm⟩ := (vl_mapv t).1 hm
    exact ⟨w, (v1 w).2 (.inr hw), hm⟩
  rintro ⟨i, W, bW⟩ ⟨i1, i2, i3, i4, i5, i6, i7⟩
  simp only at i1 i2 i3 i4 i5 i6 i7
  have haL := accV_len (w := 1) (b := bW) (l := W.map iv) underlying61
  have hWl := nodup_V25 i2 i3
  simp -implicitDefEqProofs only [haL, List.length_map, evE, ↓evZ2, ↓evZ3, ↓Int.cast_ofNat_Int, implies_true, zy2, aFn, List.contains, List.elem, zq3, zy1, zq2, sub, zx3, zw2, zw3, zy3, gd, zq1, zw0, zq0, zx0, zx2, zx1, zy0, zw1, List.range', ↓reduceIte, reduceCtorEq, Nat.reduceEqDiff, Nat.reduceAdd, Nat.reduceLeDiff, Nat.reduceMul, Nat.reduceLT, Nat.reduceBEq, Int.reduceEq, tf_P1_72]
  refine zq4 (fun h => ?_) (fun h => ?_)
  case refine_2 =>
    simp only [decide_eq_false_iff_not, Int.ofNat_lt] at h
    obtain rfl : i = W.length := by omega
    rw [List.take_length] at i5
    simp -implicitDefEqProofs only [haL, List.length_map, evE, ↓evZ2, ↓evZ3, ↓Int.cast_ofNat_Int, implies_true, zy2, aFn, List.contains, List.elem, zq3, zy1, zq2, sub, zx3, zw2, zw3, zy3, gd, zq1, zw0, zq0, zx0, zx2, zx1, zy0, zw1, List.range', ↓reduceIte, reduceCtorEq, Nat.reduceEqDiff, Nat.reduceAdd, Nat.reduceLeDiff, Nat.reduceMul, Nat.reduceLT, Nat.reduceBEq, Int.reduceEq, tf_P1_72]
    have hno : n ∉ (t.mapv R).vl := fun hm => by
      obtain ⟨w, hw, hnw⟩ := i7 hm
      exact within_no G i5 w hw hnw
    exact ⟨by simp only [hno, decide_false, soft_agg, soft_tup, soft_int, soft_bool, soft_str, soft_slice, soft_fslice, soft_ptr, soft_pptr, soft_map, soft_mslice, Tm.soft, List.map_cons, List.map_nil], Drops.accS (Drops.refl _) i4⟩
  simp only [decide_eq_true_eq, Int.ofNat_lt] at h
  obtain ⟨w, hx⟩ : ∃ w, W[i]? = some w := ⟨_, List.getElem?_eq_getElem h⟩
  have hmem := List.mem_of_getElem? hx
  have hat := acc_at (b := bW) (l := W.map iv) (i := i) (x := iv w) eI_61 (by rw [List.getElem?_map, hx]; rfl)
  obtain ⟨hblk, hget⟩ := acc_blk (st := st) (b := bW) hx
  have hw := wrap64 (n := (i : Int) + 1) (by omega) (by omega)
  simp -implicitDefEqProofs only [haL, List.length_map, hat, hblk, hget, Nat.mul_one, hw, evE, ↓evZ2, ↓evZ3, ↓Int.cast_ofNat_Int, implies_true, zy2, aFn, List.contains, List.elem, zq3, zy1, zq2, sub, zx3, zw2, zw3, zy3, gd, zq1, zw0, zq0, zx0, zx2, zx1, zy0, zw1, List.range', ↓reduceIte, reduceCtorEq, Nat.reduceEqDiff, Nat.reduceAdd, Nat.reduceLeDiff, Nat.reduceMul, Nat.reduceLT, Nat.reduceBEq, Int.reduceEq, tf_P1_72]
  refine zq4 (fun h2 => ?_) (fun h2 => ?_)
  · simp only [decide_eq_true_eq] at h2
    subst h2
    simp -implicitDefEqProofs only [haL, List.length_map, hat, hblk, hget, Nat.mul_one, hw, evE, ↓evZ2, ↓evZ3, ↓Int.cast_ofNat_Int, implies_true, zy2, aFn, List.contains, List.elem, zq3, zy1, zq2, sub, zx3, zw2, zw3, zy3, gd, zq1, zw0, zq0, zx0, zx2, zx1, zy0, zw1, List.range', ↓reduceIte, reduceCtorEq, Nat.reduceEqDiff, Nat.reduceAdd, Nat.reduceLeDiff, Nat.reduceMul, Nat.reduceLT, Nat.reduceBEq, Int.reduceEq, tf_P1_72]
    have hm : w ∈ (t.mapv R).vl := i6 w hmem (by rw [G.free hn, vl_vr]; simp)
    exact ⟨by simp only [hm, decide_true, soft_agg, soft_tup, soft_int, soft_bool, soft_str, soft_slice, soft_fslice, soft_ptr, soft_pptr, soft_map, soft_mslice, Tm.soft, List.map_cons, List.map_nil], Drops.accS (Drops.refl _) i4⟩
  simp only [decide_eq_false_iff_not] at h2
  simp -implicitDefEqProofs only [haL, List.length_map, hat, hblk, hget, Nat.mul_one, hw, evE, ↓evZ2, ↓evZ3, ↓Int.cast_ofNat_Int, implies_true, zy2, aFn, List.contains, List.elem, zq3, zy1, zq2, sub, zx3, zw2, zw3, zy3, gd, zq1, zw0, zq0, zx0, zx2, zx1, zy0, zw1, List.range', ↓reduceIte, reduceCtorEq, Nat.reduceEqDiff, Nat.reduceAdd, Nat.reduceLeDiff, Nat.reduceMul, Nat.reduceLT, Nat.reduceBEq, Int.reduceEq, tf_P1_72]
  obtain ⟨hw0, hw1⟩ := mem_V25.1 (i3 w hmem)
  obtain ⟨j, rfl⟩ : ∃ j : Nat, w = j := ⟨w.toNat, by omega⟩
  have hj : j < 26 := by omega
  have hj' : decide ((j : Int) < 26) = true := by simp; omega
  have hatj := held_at (P := prog) (b := b) (len := 26) eI_23 hj
  have hSA := hS.acc i4
  have htk : W.take (i + 1) = W.take i ++ [(j : Int)] := by rw [List.take_add_one, hx]; rfl
  have step : ∀ W' : List Int, (∀ v ∈ W, v ∈ W') → (∀ u, σ (j : Int) = some u → ∀ v ∈ u.vl, v ∈ W') → ∀ w ∈ W'.take (i + 1), W'.take (i + 1) = W.take (i + 1) → w ≠ n ∧ ∀ u, σ w = some u → ∀ v ∈ u.vl, v ∈ W' := by
    intro W' hsub hnew w hw' hte
    rw [hte, htk] at hw'
    rcases List.mem_append.1 hw' with hw' | hw'
    · exact ⟨(i5 w hw').1, fun u hu v hv => hsub v ((i5 w hw').2 u hu v hv)⟩
    · simp only [List.mem_cons, List.not_mem_nil, or_false] at hw'
      subst hw'
      exact ⟨h2, hnew⟩
  cases hs : σ (j : Int) with
  | none =>
    obtain ⟨D, e1, e2, _⟩ := hSA.none hj hs
    simp -implicitDefEqProofs only [hj', hatj, e1, e2, decide_true, beq_self_eq_true, haL, List.length_map, hat, hblk, hget, Nat.mul_one, hw, evE, ↓evZ2, ↓evZ3, ↓Int.cast_ofNat_Int, implies_true, zy2, aFn, List.contains, List.elem, zq3, zy1, zq2, sub, zx3, zw2, zw3, zy3, gd, zq1, zw0, zq0, zx0, zx2, zx1, zy0, zw1, List.range', ↓reduceIte, reduceCtorEq, Nat.reduceEqDiff, Nat.reduceAdd, Nat.reduceLeDiff, Nat.reduceMul, Nat.reduceLT, Nat.reduceBEq, Int.reduceEq, tf_P1_72]
    exact ⟨(i + 1, W, bW), by simp only; omega, ⟨h, i2, i3, i4, fun w hw' => step W (fun _ h => h) (fun u hu => by rw [hs] at hu; cases hu) w hw' rfl, i6, i7⟩, zx7.mk (by simp -implicitDefEqProofs only [haL, List.length_map, hat, hblk, hget, Nat.mul_one, hw, evE, ↓evZ2, ↓evZ3, ↓Int.cast_ofNat_Int, implies_true, zy2, aFn, List.contains, List.elem, zq3, zy1, zq2, sub, zx3, zw2, zw3, zy3, gd, zq1, zw0, zq0, zx0, zx2, zx1, zy0, zw1, List.range', ↓reduceIte, reduceCtorEq, Nat.reduceEqDiff, Nat.reduceAdd, Nat.reduceLeDiff, Nat.reduceMul, Nat.reduceLT, Nat.reduceBEq, Int.reduceEq, tf_P1_72])⟩
  | some u =>
    obtain ⟨k', n', s', ts'⟩ := u
    have ho := hok _ _ hs
    have hk' : ¬ k' = 0 := by have := (ownOk_kind (Tm.okA_own ho.1).1).1; omega
    obtain ⟨D, e1, e2, e3, e4⟩ := hSA.some hj hs
    simp -implicitDefEqProofs only [hj', hatj, e1, e2, e3, e4, hk', decide_false, beq_self_eq_true, haL, List.length_map, hat, hblk, hget, Nat.mul_one, hw, evE, ↓evZ2, ↓evZ3, ↓Int.cast_ofNat_Int, implies_true, zy2, aFn, List.contains, List.elem, zq3, zy1, zq2, sub, zx3, zw2, zw3, zy3, gd, zq1, zw0, zq0, zx0, zx2, zx1, zy0, zw1, List.range', ↓reduceIte, reduceCtorEq, Nat.reduceEqDiff, Nat.reduceAdd, Nat.reduceLeDiff, Nat.reduceMul, Nat.reduceLT, Nat.reduceBEq, Int.reduceEq, tf_P1_72]
    have hwf := Tm.cv_wf _ (Tm.okA_cv _ ho.1)
    have hc := c_l1Vars (.mk k' n' s' ts') W bW st hwf i4 (by have := ho.2; omega)
    obtain ⟨u1, u2, m, u3⟩ := vars_spec _ hwf W
    rw [Tm.av_mk] at hc
    refine hc.mono ?_
    rintro _ _ ⟨b', rfl, rfl, hb'⟩
    generalize (Tm.mk k' n' s' ts').vars W = W' at *
    have hte : W'.take (i + 1) = W.take (i + 1) := by rw [u3, List.take_append_of_le_length (by omega)]
    have hbd : (Tm.mk k' n' s' ts').mapv R = R (j : Int) := (G.bound hs).symm
    simp -implicitDefEqProofs only [haL, List.length_map, hat, hblk, hget, Nat.mul_one, hw, evE, ↓evZ2, ↓evZ3, ↓Int.cast_ofNat_Int, implies_true, zy2, aFn, List.contains, List.elem, zq3, zy1, zq2, sub, zx3, zw2, zw3, zy3, gd, zq1, zw0, zq0, zx0, zx2, zx1, zy0, zw1, List.range', ↓reduceIte, reduceCtorEq, Nat.reduceEqDiff, Nat.reduceAdd, Nat.reduceLeDiff, Nat.reduceMul, Nat.reduceLT, Nat.reduceBEq, Int.reduceEq, tf_P1_72]
    refine ⟨(i + 1, W', b'), by simp only; omega, ⟨by rw [u3]; simp only [List.length_append]; omega, u2 i2, fun w hw' => ?_, hb', fun w hw' => step W' (fun v hv => (u1 v).2 (.inl hv)) (fun u hu v hv => ?_) w hw' hte, fun w hw' hm => ?_, fun hm => ?_⟩, zx7.mk (by simp -implicitDefEqProofs only [haL, List.length_map, hat, hblk, hget, Nat.mul_one, hw, evE, ↓evZ2, ↓evZ3, ↓Int.cast_ofNat_Int, implies_true, zy2, aFn, List.contains, List.elem, zq3, zy1, zq2, sub, zx3, zw2, zw3, zy3, gd, zq1, zw0, zq0, zx0, zx2, zx1, zy0, zw1, List.range', ↓reduceIte, reduceCtorEq, Nat.reduceEqDiff, Nat.reduceAdd, Nat.reduceLeDiff, Nat.reduceMul, Nat.reduceLT, Nat.reduceBEq, Int.reduceEq, tf_P1_72])⟩
    · rcases (u1 w).1 hw' with h | h
      · exact i3 w h
      · exact Tm.okA_inV _ ho.1 w h
    · rw [hs] at hu
      cases hu
      exact (u1 v).2 (.inr hv)
    · rcases (u1 w).1 hw' with h | h
      · exact i6 w h hm
      · refine i6 (j : Int) hmem ?_
        rw [← hbd]
        exact (vl_mapv _).2 ⟨w, h, hm⟩
    · obtain ⟨w, h, hm⟩ := i7 hm
      exact ⟨w, (u1 w).2 (.inl h), hm⟩
end Go.AW

/- Goals that are built in: what they come to. -/
namespace Go.AW
set_option linter.unusedSimpArgs false
set_option linter.unusedVariables false
theorem flat_mono : ∀ (d : Nat) (t : Tm), t.flat d = true → t.flat (d + 1) = true
  | 0, t, h => by rw [Tm.flat_zero] at h; cases h
  | d + 1, .mk k n s ts, h => by
    rw [Tm.flat_succ, List.all_eq_true] at h ⊢
    exact fun x hx => flat_mono d x (h x hx)
theorem Tm.valid_kid {t x : Tm} (h : t.valid = true) (hk : t.k ≠ 1) (hx : x ∈ t.ts) : x.valid = true := by
  have ho := Tm.valid_okA h
  have hox := okA_kids t hk ho x hx
  rw [Tm.valid_iff ho] at h
  rw [Tm.valid_iff hox]
  simp only [Bool.and_eq_true, decide_eq_true_eq] at h ⊢
  obtain ⟨k, n, s, ts⟩ := t
  refine ⟨?_, ?_⟩
  · have h1 := h.1
    rw [Tm.flat_succ, List.all_eq_true] at h1
    exact flat_mono 29 x (h1 x hx)
  · have h2 := h.2
    rw [Tm.nodes_mk] at h2
    have := sumL_mem (f := Tm.nodes) hx
    simp only [Tm.ts] at this
    omega
def itm (n : Int) : Tm := .mk 2 n ⟨#[]⟩ []
theorem itm_valid {n : Int} (h : InR n) : (itm n).valid = true := by
  have ho : (itm n).okA = true := by
    unfold itm
    rw [Tm.okA_mk]
    simp [ownOk, h.1, h.2]
  rw [Tm.valid_iff ho]
  simp [itm, Tm.nodes_mk, sumL, Tm.flat_succ]
def codeB (b : Bool) : Int := if b = true then 0 else 1
def cmpH (s : ByteArray) (a b : Int) : Bool :=
  if s = ⟨#[60]⟩ then decide (a < b) else if s = ⟨#[62]⟩ then decide (b < a) else if s = ⟨#[61, 60]⟩ then decide (a ≤ b) else if s = ⟨#[62, 61]⟩ then decide (b ≤ a) else decide (a = b)
noncomputable def uniC (a b : Tm) : Int × Sub := (codeB (uniR a b).1, (uniR a b).2.1)
def testB (s : ByteArray) (x : Tm) : Bool :=
  if s = ⟨#[118, 97, 114]⟩ then decide (x.k = 1) else if s = ⟨#[110, 111, 110, 118, 97, 114]⟩ then !decide (x.k = 1) else if s = ⟨#[97, 116, 111, 109]⟩ then decide (x.k = 3) && decide ((x.ts.length : Int) = 0) else decide (x.k = 2)
def cmpC (s : ByteArray) (x y : Tm) : Int := (both (fun a b => (0, codeB (cmpH s a b))) x.ev y.ev).2
def argT (x y : Tm) : Option Tm := if 1 ≤ x.n ∧ x.n ≤ y.ts.length then y.ts[(x.n - 1).toNat]? else none
noncomputable def argC (x y z : Tm) : Int × Sub :=
  if x.k = 1 ∨ y.k = 1 then (2, Sub.none) else if x.k ≠ 2 ∨ y.k ≠ 3 ∨ y.ts.length = 0 then (3, Sub.none) else match argT x y with
    | some u => uniC z u
    | none => (1, Sub.none)
noncomputable def solveB (s : ByteArray) : List Tm → Int × Sub
  | [] => (codeB (decide (s = ⟨#[116, 114, 117, 101]⟩)), Sub.none)
  | [x] => (codeB (testB s x), Sub.none)
  | [x, y] => if inN cmpNames s = true then (cmpC s x y, Sub.none) else if s = ⟨#[61]⟩ then uniC x y else if s = ⟨#[92, 61]⟩ then (codeB (!(uniR x y).1), Sub.none)
    else if s = ⟨#[61, 61]⟩ then (codeB (x.same y), Sub.none) else if y.ev.2 ≠ 0 then (y.ev.2, Sub.none) else uniC x (itm y.ev.1)
  | [x, y, z] => argC x y z
  | _ => (0, Sub.none)
structure SolB (σ : Sub) : Prop where
  good : IsGood σ
  okA : AllS (fun t => t.okA = true) σ
  okN : AllS OkN σ
theorem SolB.none : SolB Sub.none := ⟨IsGood.none, fun n u h => (by cases h), fun n u h => (by cases h)⟩
theorem SolB.uni {a b : Tm} (ha : a.valid = true) (hb : b.valid = true) : SolB (uniR a b).2.1 := by
  obtain ⟨r, σ, tr, h, e⟩ := unif_of ha hb
  rw [e]
  obtain ⟨g, hg⟩ := h.run
  exact ⟨h.uni.good, h.okA, (uni_all okN_kids g).1 Sub.none a b r σ tr IsGood.none hg (fun n u h => by cases h) ⟨Tm.valid_okA ha, Tm.valid_nodes ha⟩ ⟨Tm.valid_okA hb, Tm.valid_nodes hb⟩⟩
theorem argT_mem {x y u : Tm} (h : argT x y = some u) : u ∈ y.ts := by
  unfold argT at h
  split at h
  · exact List.mem_of_getElem? h
  · cases h
theorem solveB_sol (s : ByteArray) (ks : List Tm) (hv : ∀ x ∈ ks, x.valid = true) : SolB (solveB s ks).2 := by
  match ks, hv with
  | [], _ => exact SolB.none
  | [x], _ => exact SolB.none
  | [x, y], hv =>
    have hx := hv x (by simp)
    have hy := hv y (by simp)
    simp only [solveB]
    split
    · exact SolB.none
    split
    · exact SolB.uni hx hy
    split
    · exact SolB.none
    split
    · exact SolB.none
    split
    · exact SolB.none
    · exact SolB.uni hx (itm_valid (Tm.ev_in y (Tm.valid_okV hy)))
  | [x, y, z], hv =>
    have hy := hv y (by simp)
    have hz := hv z (by simp)
    simp only [solveB, argC]
    split
    · exact SolB.none
    rename_i h1
    split
    · exact SolB.none
    split
    · rename_i u hu
      refine SolB.uni hz (Tm.valid_kid hy (fun h => h1 (.inr h)) (argT_mem hu))
    · exact SolB.none
  | a :: b :: c :: d :: l, _ => exact SolB.none
theorem bi_cases {s : ByteArray} {n : Nat} (h : isBuiltin s (n : Int) = true) :
    (n = 2 ∧ (inN cmpNames s = true ∨ s = ⟨#[61]⟩ ∨ s = ⟨#[92, 61]⟩ ∨ s = ⟨#[61, 61]⟩ ∨ s = ⟨#[105, 115]⟩)) ∨ (n = 0 ∧ (s = ⟨#[116, 114, 117, 101]⟩ ∨ s = ⟨#[102, 97, 105, 108]⟩)) ∨
    (n = 1 ∧ (s = ⟨#[118, 97, 114]⟩ ∨ s = ⟨#[110, 111, 110, 118, 97, 114]⟩ ∨ s = ⟨#[97, 116, 111, 109]⟩ ∨ s = ⟨#[105, 110, 116]⟩)) ∨ (n = 3 ∧ s = ⟨#[97, 114, 103]⟩) := by
  unfold isBuiltin at h
  simp only [cond_eq_ite] at h
  split at h
  · rename_i h1
    left
    refine ⟨by simp at h; omega, ?_⟩
    simp only [Bool.or_eq_true, decide_eq_true_eq] at h1
    simp only [inN, cmpNames, List.any_cons, List.any_nil, Bool.or_eq_true, decide_eq_true_eq, Bool.false_eq_true, or_false]
    rcases h1 with (((((((h1 | h1) | h1) | h1) | h1) | h1) | h1) | h1) | h1 <;> simp [h1]
  split at h
  · rename_i h1
    right; left
    refine ⟨by simp at h; omega, ?_⟩
    simpa using h1
  split at h
  · rename_i h1
    right; right; left
    refine ⟨by simp at h; omega, ?_⟩
    simp only [Bool.or_eq_true, decide_eq_true_eq] at h1
    rcases h1 with ((h1 | h1) | h1) | h1 <;> simp [h1]
  split at h
  · rename_i h1
    right; right; right
    exact ⟨by simp at h; omega, by simpa using h1⟩
  · cases h
end Go.AW

/- The store of bindings in memory: what was bound, in order; steps. -/
namespace Go.AW
set_option linter.unusedSimpArgs false
set_option linter.unusedVariables false
def tbk : AV → List Nat
  | .mslice b _ _ _ => [b]
  | _ => []
def Trail (st : zy7) (q : AV) (tr : List Int) : Prop :=
  (q = .fslice [] ∧ tr = []) ∨ ∃ b cs, q = .mslice b 0 tr.length 1 ∧ st b = some (.cells cs) ∧ cs.take tr.length = tr.map iv
structure Sto (st : zy7) (c m : Nat) (q : AV) (σ : Sub) (tr : List Int) : Prop where
  sub : SubAt st c m q σ
  trail : Trail st q tr
  apart : c ∉ tbk q
structure StepQ (c m : Nat) (st : zy7) (q : AV) (st' : zy7) (q' : AV) : Prop where
  frame : ∀ b o, st b = some o → b ≠ c → b ≠ m → b ∉ tbk q → st' b = some o
  fresh : ∀ b ∈ tbk q', b ∈ tbk q ∨ st b = none
def Post (c m : Nat) (st : zy7) (q : AV) (σ' : Sub) (tr' : List Int) (st' : zy7) : Prop := ∃ q', Sto st' c m q' σ' tr' ∧ StepQ c m st q st' q'
theorem StepQ.refl (c m : Nat) (st : zy7) (q : AV) : StepQ c m st q st q := ⟨fun _ _ h _ _ _ => h, fun _ h => .inl h⟩
theorem StepQ.trans {c m : Nat} {st st' st'' : zy7} {q q' q'' : AV} {σ : Sub} {tr : List Int} (x : StepQ c m st q st' q') (hS : Sto st' c m q' σ tr) (y : StepQ c m st' q' st'' q'') : StepQ c m st q st'' q'' := by
  refine ⟨fun b o h h1 h2 h3 => ?_, fun b hb => ?_⟩
  · refine y.frame b o (x.frame b o h h1 h2 h3) h1 h2 fun h4 => ?_
    rcases x.fresh b h4 with h5 | h5
    · exact h3 h5
    · rw [h5] at h; cases h
  · rcases y.fresh b hb with h | h
    · exact x.fresh b h
    · by_cases h1 : b ∈ tbk q
      · exact .inl h1
      · refine .inr ?_
        cases hst : st b with
        | none => rfl
        | some o =>
          exfalso
          by_cases hc : b = c
          · subst hc; rw [hS.sub.cells] at h; cases h
          · by_cases hm : b = m
            · subst hm; rw [hS.sub.map] at h; cases h
            · rw [x.frame b o hst hc hm h1] at h; cases h
theorem Sto.tb_some {st : zy7} {c m : Nat} {q : AV} {σ : Sub} {tr : List Int} (h : Sto st c m q σ tr) : ∀ b ∈ tbk q, ∃ cs, st b = some (.cells cs) := by
  intro b hb
  rcases h.trail with ⟨rfl, _⟩ | ⟨b', cs, rfl, hb', _⟩
  · simp [tbk] at hb
  · simp only [tbk, List.mem_cons, List.not_mem_nil, or_false] at hb; subst hb; exact ⟨cs, hb'⟩
theorem Sto.m_apart {st : zy7} {c m : Nat} {q : AV} {σ : Sub} {tr : List Int} (h : Sto st c m q σ tr) : m ∉ tbk q := fun hb => by
  obtain ⟨cs, e⟩ := h.tb_some m hb
  rw [h.sub.map] at e; cases e
theorem Sto.upd {st : zy7} {c m b : Nat} {q : AV} {σ : Sub} {tr : List Int} {o : AO} (h : Sto st c m q σ tr) (h1 : b ≠ c) (h2 : b ≠ m) (h3 : b ∉ tbk q) : Sto (st.upd b o) c m q σ tr := by
  refine ⟨h.sub.upd2 h1 h2, ?_, h.apart⟩
  rcases h.trail with h4 | ⟨b', cs, e1, e2, e3⟩
  · exact .inl h4
  · refine .inr ⟨b', cs, e1, ?_, e3⟩
    rw [zy7.upd_ne _ _ (by rintro rfl; exact h3 (by rw [e1]; simp [tbk]))]
    exact e2
theorem Sto.upd0 {st : zy7} {c m b : Nat} {q : AV} {σ : Sub} {tr : List Int} {o : AO} (h : Sto st c m q σ tr) (hb : st b = none) : Sto (st.upd b o) c m q σ tr :=
  h.upd (h.sub.ne hb).1 (h.sub.ne hb).2 fun h3 => by obtain ⟨cs, e⟩ := h.tb_some b h3; rw [hb] at e; cases e
theorem StepQ.upd0 {c m b : Nat} {st : zy7} {q : AV} {o : AO} (hb : st b = none) : StepQ c m st q (st.upd b o) q :=
  ⟨fun x p h _ _ _ => by rw [zy7.upd_ne _ _ (by rintro rfl; rw [hb] at h; cases h)]; exact h, fun _ h => .inl h⟩
theorem Sto.shape {st : zy7} {c m : Nat} {q : AV} {σ : Sub} {tr : List Int} (h : Sto st c m q σ tr) : q.isAgg = false ∧ q.width = 1 ∧ q.isJunk = false ∧ q.cells = [q] ∧ q.storable = true := by
  rcases h.trail with ⟨rfl, _⟩ | ⟨b', cs, rfl, _⟩ <;> exact ⟨rfl, rfl, rfl, rfl, rfl⟩
theorem Post.from {c m : Nat} {st s0 st' : zy7} {q q0 : AV} {σ σ' : Sub} {tr tr' : List Int} (h : Post c m s0 q0 σ' tr' st') (x : StepQ c m st q s0 q0) (hS : Sto s0 c m q0 σ tr) : Post c m st q σ' tr' st' := by
  obtain ⟨q', h1, h2⟩ := h
  exact ⟨q', h1, x.trans hS h2⟩
theorem trail_append {P : Program} {t : TypeId} {ag : Bool} {bytes : Nat} {zs : List AV} {st : zy7} {c m : Nat} {q : AV} {σ : Sub} {tr : List Int} {n : Int} {K : AV → zy7 → Prop} (hI : eI P t = some (ag, 1)) (hB : eB P t = some bytes) (hZ : eZ P t = some zs) (hz : zs.length = 1) (hb8 : bytes ≤ 16)
    (h : Sto st c m q σ tr) (hl : tr.length + 1 ≤ 1099511627776)
    (hK : ∀ q' st', Trail st' q' (tr ++ [n]) → c ∉ tbk q' → m ∉ tbk q' → (∀ x, x ∉ tbk q → x ∉ tbk q' → st' x = st x) → (∀ x ∈ tbk q', x ∈ tbk q ∨ st x = none) → K q' st') : aAppend P t st q (.fslice [.int .i64 n]) K := by
  have hfit : appFit 1 [AV.int .i64 n] := by intro e he; simp only [List.mem_cons, List.not_mem_nil, or_false] at he; subst he; exact ⟨rfl, rfl⟩
  have hbytes : (tr.length + 1) * bytes ≤ 140737488355328 := by
    have := Nat.mul_le_mul hl hb8
    omega
  unfold aAppend
  simp only [hI, hB, hZ, aElems]
  refine ⟨hz, hfit, ?_⟩
  have hcm : ∀ x, st x = none → x ≠ c ∧ x ≠ m := fun x hx => h.sub.ne hx
  rcases h.trail with ⟨rfl, rfl⟩ | ⟨b, cs, rfl, hb, hcs⟩
  · simp only [List.length_nil, List.length_cons, Nat.zero_add] at hbytes ⊢
    refine ⟨by omega, by omega, by simp, fun h => by simp at h, fun _ b hb => ?_⟩
    refine hK _ _ (.inr ⟨b, [.int .i64 n], rfl, zy7.upd_same _ _ _, rfl⟩) (by simp only [tbk, List.mem_cons, List.not_mem_nil, or_false]; exact Ne.symm (hcm b hb).1) (by simp only [tbk, List.mem_cons, List.not_mem_nil, or_false]; exact Ne.symm (hcm b hb).2) (fun x _ hx => ?_) (fun x hx => ?_)
    · simp only [tbk, List.mem_cons, List.not_mem_nil, or_false] at hx
      rw [zy7.upd_ne _ _ hx]
    · simp only [tbk, List.mem_cons, List.not_mem_nil, or_false] at hx
      subst hx; exact .inr hb
  · simp only [List.length_cons, List.length_nil, Nat.zero_add, hb]
    have hlen : tr.length ≤ cs.length := by
      have := congrArg List.length hcs
      simp only [List.length_take, List.length_map] at this
      omega
    have hca : c ≠ b := fun e => h.apart (by simp [tbk, e])
    have hma : m ≠ b := fun e => h.m_apart (by simp [tbk, e])
    have hnew : cs.take (tr.length * 1) ++ [AV.int .i64 n].flatMap AV.cells = (tr ++ [n]).map iv := by rw [Nat.mul_one, hcs]; simp [AV.cells]
    refine ⟨trivial, hbytes, by omega, by omega, ?_, fun b' hb' => ?_⟩
    · rw [hnew]
      refine hK _ _ (.inr ⟨b, _, by simp, zy7.upd_same _ _ _, by rw [List.take_of_length_le (by simp)]⟩) (by simpa [tbk] using hca) (by simpa [tbk] using hma) (fun x hx _ => ?_) (fun x hx => .inl hx)
      simp only [tbk, List.mem_cons, List.not_mem_nil, or_false] at hx
      rw [zy7.upd_ne _ _ hx]
    · rw [hnew]
      obtain ⟨hc', hm'⟩ := hcm b' hb'
      refine hK _ _ (.inr ⟨b', _, by simp, zy7.upd_same _ _ _, by rw [List.take_of_length_le (by simp)]⟩) (by simpa [tbk] using Ne.symm hc') (by simpa [tbk] using Ne.symm hm') (fun x hx hx' => ?_) (fun x hx => ?_)
      · simp only [tbk, List.mem_cons, List.not_mem_nil, or_false] at hx hx'
        rw [zy7.upd_ne _ _ hx']
        simp [zy7.erase, hx]
      · simp only [tbk, List.mem_cons, List.not_mem_nil, or_false] at hx
        subst hx; exact .inr hb'
end Go.AW


namespace Go.AW
open Go.Proofs.Try
set_option linter.unusedSimpArgs false
set_option maxRecDepth 100000
abbrev tf_S1_68 := And.intro tI_2 (And.intro zI_2 (And.intro underlying2 (And.intro tI_3 (And.intro zI_3 (And.intro underlying3 (And.intro tI_4 (And.intro zI_4 (And.intro underlying4 (And.intro tI_5 (And.intro zI_5 (And.intro underlying5 (And.intro tI_6 (And.intro zI_6 (And.intro underlying6 (And.intro tI_7 (And.intro zI_7 (And.intro fI_7_0 (And.intro fI_7_1 (And.intro fI_7_2 (And.intro fI_7_3 (And.intro bI_7 (And.intro tI_13 (And.intro zI_13 (And.intro fI_13_0 (And.intro fI_13_1 (And.intro bI_13 (And.intro tI_22 (And.intro zI_22 (And.intro eI_22 (And.intro eB_22 (And.intro eZ_22 (And.intro underlying22 (And.intro tI_24 (And.intro zI_24 (And.intro fI_24_0 (And.intro fI_24_1 (And.intro fI_24_2 (And.intro fI_24_3 (And.intro bI_24 (And.intro tI_25 (And.intro zI_25 (And.intro fI_25_0 (And.intro fI_25_1 (And.intro fI_25_2 (And.intro fI_25_3 (And.intro bI_25 (And.intro tI_39 (And.intro zI_39 (And.intro tI_68 (And.intro zI_68 (And.intro underlying68 (And.intro tI_70 (And.intro zI_70 (And.intro fI_70_0 (And.intro fI_70_1 bI_70)))))))))))))))))))))))))))))))))))))))))))))))))))))))
theorem c_walk {σ : Sub} {f : Nat} {t u : Tm} (hw : WkN σ f t u) (c m : Nat) (q : AV) (st : zy7) (hS : SubAt st c m q σ) : zq7 prog 68 [.ptr c 0, t.av] st (fun r st' => r = u.av ∧ st' = st) := by
  refine zq7.done ?_
  refine zw6 [1000000, 3] func68 ntmps68 rfl rfl (by kernel_rfl) (by decide +kernel) (by show 2 ≤ _; decide +kernel) ?_
  intro _
  simp -implicitDefEqProofs only [zy4, evE, ↓evZ2, ↓evZ3, ↓Int.cast_ofNat_Int, implies_true, zy2, aFn, List.contains, List.elem, zq3, zy1, zq2, sub, zx3, zw2, zw3, zy3, gd, zq1, zw0, zq0, zx0, zx2, zx1, zy0, zw1, List.range', ↓reduceIte, reduceCtorEq, Nat.reduceEqDiff, Nat.reduceAdd, Nat.reduceLeDiff, Nat.reduceMul, Nat.reduceLT, Nat.reduceBEq, Int.reduceEq, tf_S1_68]
  intro b3 h3 b4 h4
  have hne : b4 ≠ b3 := by rintro rfl; rw [zy7.upd_same] at h4; cases h4
  have hn4 : st b4 = none := by rw [zy7.upd_ne st _ hne] at h4; exact h4
  have hD : ∀ o o', Drops ((st.upd b3 o).upd b4 o') st := fun o o' => ((Drops.refl _).upd h3).upd hn4
  have hS' : ∀ o o', SubAt ((st.upd b3 o).upd b4 o') c m q σ := fun o o' => (hS.upd h3).upd (by rw [zy7.upd_ne _ _ hne]; exact hn4)
  obtain ⟨hn3c, hn3m⟩ := hS.ne h3
  obtain ⟨hn4c, hn4m⟩ := hS.ne hn4
  refine zw5 (σ := Nat × Tm) [1000000, 3] [0, 3, 4] (fun p => WkN σ p.1 p.2 u) (fun p => []) (fun p => (st.upd b3 (.cells p.2.av.cells)).upd b4 (.cells [.int .i64 0, .int .i64 0, .str ⟨#[]⟩, .fslice []])) (fun p => p.1) (by decide +kernel) ⟨(f, t), hw, zx7.mk (by simp -implicitDefEqProofs only [zy4, evE, ↓evZ2, ↓evZ3, ↓Int.cast_ofNat_Int, implies_true, zy2, aFn, List.contains, List.elem, zq3, zy1, zq2, sub, zx3, zw2, zw3, zy3, gd, zq1, zw0, zq0, zx0, zx2, zx1, zy0, zw1, List.range', ↓reduceIte, reduceCtorEq, Nat.reduceEqDiff, Nat.reduceAdd, Nat.reduceLeDiff, Nat.reduceMul, Nat.reduceLT, Nat.reduceBEq, Int.reduceEq, tf_S1_68])⟩ ?_
  rintro ⟨g, t⟩ hw
  obtain ⟨k, n, s, ts⟩ := t
  simp only at hw
  simp only [Tm.av_mk]
  simp -implicitDefEqProofs only [zy4, hne, hne.symm, hS.cells, hn3c.symm, hn4c.symm, hn3m.symm, hn4m.symm, evE, ↓evZ2, ↓evZ3, ↓Int.cast_ofNat_Int, implies_true, zy2, aFn, List.contains, List.elem, zq3, zy1, zq2, sub, zx3, zw2, zw3, zy3, gd, zq1, zw0, zq0, zx0, zx2, zx1, zy0, zw1, List.range', ↓reduceIte, reduceCtorEq, Nat.reduceEqDiff, Nat.reduceAdd, Nat.reduceLeDiff, Nat.reduceMul, Nat.reduceLT, Nat.reduceBEq, Int.reduceEq, tf_S1_68]
  refine zq4 (fun h => ?_) (fun h => ?_)
  case refine_2 =>
    simp only [decide_eq_false_iff_not] at h
    cases hw with
    | go h1 => exact absurd h1 h
    | stop =>
      simp -implicitDefEqProofs only [zy4, hne, hne.symm, hS.cells, hn3c.symm, hn4c.symm, hn3m.symm, hn4m.symm, evE, ↓evZ2, ↓evZ3, ↓Int.cast_ofNat_Int, implies_true, zy2, aFn, List.contains, List.elem, zq3, zy1, zq2, sub, zx3, zw2, zw3, zy3, gd, zq1, zw0, zq0, zx0, zx2, zx1, zy0, zw1, List.range', ↓reduceIte, reduceCtorEq, Nat.reduceEqDiff, Nat.reduceAdd, Nat.reduceLeDiff, Nat.reduceMul, Nat.reduceLT, Nat.reduceBEq, Int.reduceEq, tf_S1_68]
      exact ⟨by rw [← Tm.av_mk, Tm.soft], hD _ _⟩
  simp only [decide_eq_true_eq] at h
  simp -implicitDefEqProofs only [zy4, hne, hne.symm, hS.cells, hn3c.symm, hn4c.symm, hn3m.symm, hn4m.symm, evE, ↓evZ2, ↓evZ3, ↓Int.cast_ofNat_Int, implies_true, zy2, aFn, List.contains, List.elem, zq3, zy1, zq2, sub, zx3, zw2, zw3, zy3, gd, zq1, zw0, zq0, zx0, zx2, zx1, zy0, zw1, List.range', ↓reduceIte, reduceCtorEq, Nat.reduceEqDiff, Nat.reduceAdd, Nat.reduceLeDiff, Nat.reduceMul, Nat.reduceLT, Nat.reduceBEq, Int.reduceEq, tf_S1_68]
  refine zx5 [(0, 1), (1, 1), (2, 1), (4, 1), (3, 2), (5, 2), (6, 2), (7, 1), (8, 1), (9, 1), (10, 0), (11, 0), (12, 1)] [0, 1, 2, 4, 3, 5, 6, 7, 8, 9, 12] mixed (by decide +kernel) (by decide +kernel) (by decide +kernel) ?_
  have hl := fun (st' : zy7) (hm : st' m = some (AO.map (mapOf σ))) => look_sub (P := prog) (n := n) hm underlying68 underlying3 zV_25
  simp -implicitDefEqProofs only [zy4, hne, hne.symm, hS.cells, hn3c.symm, hn4c.symm, hn3m.symm, hn4m.symm, evE, ↓evZ2, ↓evZ3, ↓Int.cast_ofNat_Int, implies_true, zy2, aFn, List.contains, List.elem, zq3, zy1, zq2, sub, zx3, zw2, zw3, zy3, gd, zq1, zw0, zq0, zx0, zx2, zx1, zy0, zw1, List.range', ↓reduceIte, reduceCtorEq, Nat.reduceEqDiff, Nat.reduceAdd, Nat.reduceLeDiff, Nat.reduceMul, Nat.reduceLT, Nat.reduceBEq, Int.reduceEq, tf_S1_68]
  rw [hl _ (hS' _ _).map]
  cases hw with
  | stop hs =>
    rw [show σ n = none from hs h]
    simp -implicitDefEqProofs only [found, zy4, hne, hne.symm, hS.cells, hn3c.symm, hn4c.symm, hn3m.symm, hn4m.symm, evE, ↓evZ2, ↓evZ3, ↓Int.cast_ofNat_Int, implies_true, zy2, aFn, List.contains, List.elem, zq3, zy1, zq2, sub, zx3, zw2, zw3, zy3, gd, zq1, zw0, zq0, zx0, zx2, zx1, zy0, zw1, List.range', ↓reduceIte, reduceCtorEq, Nat.reduceEqDiff, Nat.reduceAdd, Nat.reduceLeDiff, Nat.reduceMul, Nat.reduceLT, Nat.reduceBEq, Int.reduceEq, tf_S1_68]
    intro b5 h5
    have h53 : b5 ≠ b3 := by rintro rfl; simp [zy7.upd_ne, zy7.upd_same, hne.symm] at h5
    have h54 : b5 ≠ b4 := by rintro rfl; simp [zy7.upd_same] at h5
    have hn5 : st b5 = none := by rw [zy7.upd_ne _ _ h54, zy7.upd_ne _ _ h53] at h5; exact h5
    simp -implicitDefEqProofs only [zy4, hne, hne.symm, h53, h54, h53.symm, h54.symm, evE, ↓evZ2, ↓evZ3, ↓Int.cast_ofNat_Int, implies_true, zy2, aFn, List.contains, List.elem, zq3, zy1, zq2, sub, zx3, zw2, zw3, zy3, gd, zq1, zw0, zq0, zx0, zx2, zx1, zy0, zw1, List.range', ↓reduceIte, reduceCtorEq, Nat.reduceEqDiff, Nat.reduceAdd, Nat.reduceLeDiff, Nat.reduceMul, Nat.reduceLT, Nat.reduceBEq, Int.reduceEq, tf_S1_68]
    exact ⟨by rw [← Tm.av_mk, Tm.soft], ((((Drops.refl _).upd h3).upd hn4).upd hn5).upd hn4⟩
  | go _ h2 h3' =>
    rw [show σ n = some _ from h2]
    simp -implicitDefEqProofs only [found, zy4, hne, hne.symm, evE, ↓evZ2, ↓evZ3, ↓Int.cast_ofNat_Int, implies_true, zy2, aFn, List.contains, List.elem, zq3, zy1, zq2, sub, zx3, zw2, zw3, zy3, gd, zq1, zw0, zq0, zx0, zx2, zx1, zy0, zw1, List.range', ↓reduceIte, reduceCtorEq, Nat.reduceEqDiff, Nat.reduceAdd, Nat.reduceLeDiff, Nat.reduceMul, Nat.reduceLT, Nat.reduceBEq, Int.reduceEq, tf_S1_68]
    intro b5 h5
    have h53 : b5 ≠ b3 := by rintro rfl; simp [zy7.upd_ne, zy7.upd_same, hne.symm] at h5
    have h54 : b5 ≠ b4 := by rintro rfl; simp [zy7.upd_same] at h5
    have hn5 : st b5 = none := by rw [zy7.upd_ne _ _ h54, zy7.upd_ne _ _ h53] at h5; exact h5
    simp -implicitDefEqProofs only [zy4, hne, hne.symm, h53, h54, h53.symm, h54.symm, evE, ↓evZ2, ↓evZ3, ↓Int.cast_ofNat_Int, implies_true, zy2, aFn, List.contains, List.elem, zq3, zy1, zq2, sub, zx3, zw2, zw3, zy3, gd, zq1, zw0, zq0, zx0, zx2, zx1, zy0, zw1, List.range', ↓reduceIte, reduceCtorEq, Nat.reduceEqDiff, Nat.reduceAdd, Nat.reduceLeDiff, Nat.reduceMul, Nat.reduceLT, Nat.reduceBEq, Int.reduceEq, tf_S1_68]
    refine ⟨(_, _), Nat.lt_succ_self _, h3', zx7.drop (fun x => ?_) (by simp -implicitDefEqProofs only [zy4, hne, hne.symm, h53, h54, h53.symm, h54.symm, evE, ↓evZ2, ↓evZ3, ↓Int.cast_ofNat_Int, implies_true, zy2, aFn, List.contains, List.elem, zq3, zy1, zq2, sub, zx3, zw2, zw3, zy3, gd, zq1, zw0, zq0, zx0, zx2, zx1, zy0, zw1, List.range', ↓reduceIte, reduceCtorEq, Nat.reduceEqDiff, Nat.reduceAdd, Nat.reduceLeDiff, Nat.reduceMul, Nat.reduceLT, Nat.reduceBEq, Int.reduceEq, tf_S1_68])⟩
    by_cases e3 : x = b3 <;> by_cases e4 : x = b4 <;> by_cases e5 : x = b5 <;> simp_all [zy7.upd]
end Go.AW


namespace Go.AW
open Go.Proofs.Try
set_option linter.unusedSimpArgs false
set_option maxRecDepth 100000
abbrev tf_S2_78 := And.intro tI_2 (And.intro zI_2 (And.intro underlying2 (And.intro tI_3 (And.intro zI_3 (And.intro underlying3 (And.intro tI_4 (And.intro zI_4 (And.intro underlying4 (And.intro tI_5 (And.intro zI_5 (And.intro underlying5 (And.intro tI_6 (And.intro zI_6 (And.intro underlying6 (And.intro tI_7 (And.intro zI_7 (And.intro fI_7_0 (And.intro fI_7_1 (And.intro fI_7_2 (And.intro fI_7_3 (And.intro bI_7 (And.intro tI_8 (And.intro zI_8 (And.intro fI_8_0 (And.intro fI_8_1 (And.intro fI_8_2 (And.intro fI_8_3 (And.intro bI_8 (And.intro tI_11 (And.intro zI_11 (And.intro underlying11 (And.intro tI_15 (And.intro zI_15 (And.intro tI_16 (And.intro zI_16 (And.intro tI_18 (And.intro zI_18 (And.intro fI_18_0 (And.intro bI_18 (And.intro tI_19 (And.intro zI_19 (And.intro fI_19_0 (And.intro bI_19 (And.intro tI_23 (And.intro zI_23 (And.intro eI_23 (And.intro eB_23 (And.intro eZ_23 (And.intro underlying23 (And.intro tI_25 (And.intro zI_25 (And.intro fI_25_0 (And.intro fI_25_1 (And.intro fI_25_2 (And.intro fI_25_3 (And.intro bI_25 (And.intro tI_108 (And.intro zI_108 (And.intro underlying108 (And.intro tI_109 (And.intro zI_109 underlying109)))))))))))))))))))))))))))))))))))))))))))))))))))))))))))))
theorem c_IndexFuncTmS (l : List Tm) (g : FuncId) (caps : List AV) (p : Tm → Bool) (J E : zy7 → Prop) (hc : ∀ x ∈ l, ∀ s, J s → zq7 prog g ([Tm.av x] ++ caps) s (fun r s' => r = .bool (p x) ∧ (p x = true → E s') ∧ (p x = false → J s'))) (st : zy7) (h0 : J st) :
    zq7 prog 78 [.slice (l.map Tm.av), .func g caps] st (fun r st' => r = .int .i64 (idxP p l 0) ∧ (l.any p = true → E st') ∧ (l.any p = false → J st')) := by
  refine zw6 [1000000] func78 ntmps78 rfl rfl (by kernel_rfl) (by decide +kernel) (by show 2 ≤ _; decide +kernel) ?_
  simp only [fitsL, AV.fits, and_true, List.length_map]
  intro ⟨hl, _⟩
  simp -implicitDefEqProofs only [List.length_map, evE, ↓evZ2, ↓evZ3, ↓Int.cast_ofNat_Int, implies_true, zy2, aFn, List.contains, List.elem, zq3, zy1, zq2, sub, zx3, zw2, zw3, zy3, gd, zq1, zw0, zq0, zx0, zx2, zx1, zy0, zw1, List.range', ↓reduceIte, reduceCtorEq, Nat.reduceEqDiff, Nat.reduceAdd, Nat.reduceLeDiff, Nat.reduceMul, Nat.reduceLT, Nat.reduceBEq, Int.reduceEq, tf_S2_78]
  refine zy5 (σ := zy7) [1000000] [0, 1, 7] l (fun i s => J s ∧ idxP p (l.drop i) i = idxP p l 0 ∧ (l.drop i).any p = l.any p) (fun i _ => [(8, .int .i64 i)]) (fun _ s => s) (by decide +kernel) ⟨st, ⟨h0, rfl, rfl⟩, zx7.mk (by simp -implicitDefEqProofs only [evE, ↓evZ2, ↓evZ3, ↓Int.cast_ofNat_Int, implies_true, zy2, aFn, List.contains, List.elem, zq3, zy1, zq2, sub, zx3, zw2, zw3, zy3, gd, zq1, zw0, zq0, zx0, zx2, zx1, zy0, zw1, List.range', ↓reduceIte, reduceCtorEq, Nat.reduceEqDiff, Nat.reduceAdd, Nat.reduceLeDiff, Nat.reduceMul, Nat.reduceLT, Nat.reduceBEq, Int.reduceEq, tf_S2_78])⟩ (fun i x s hx hlt hlt' hdr hinv => ?_) (fun s hge hinv => ?_)
  case refine_2 =>
    obtain ⟨i1, i2, i3⟩ := hinv
    rw [List.drop_length] at i2 i3
    simp -implicitDefEqProofs only [List.length_map, hge, evE, ↓evZ2, ↓evZ3, ↓Int.cast_ofNat_Int, implies_true, zy2, aFn, List.contains, List.elem, zq3, zy1, zq2, sub, zx3, zw2, zw3, zy3, gd, zq1, zw0, zq0, zx0, zx2, zx1, zy0, zw1, List.range', ↓reduceIte, reduceCtorEq, Nat.reduceEqDiff, Nat.reduceAdd, Nat.reduceLeDiff, Nat.reduceMul, Nat.reduceLT, Nat.reduceBEq, Int.reduceEq, tf_S2_78]
    exact ⟨by rw [← i2]; rfl, fun h => (by rw [← i3] at h; cases h), fun _ => i1⟩
  obtain ⟨i1, i2, i3⟩ := hinv
  rw [hdr, idxP] at i2
  rw [hdr, List.any_cons] at i3
  have hw := wrap64 (n := (i : Int) + 1) (by omega) (by omega)
  simp -implicitDefEqProofs only [List.length_map, hlt', ev_at (av := Tm.av) eI_23 hx (Tm.av_width x), Tm.av_agg, Tm.av_width, evE, ↓evZ2, ↓evZ3, ↓Int.cast_ofNat_Int, implies_true, zy2, aFn, List.contains, List.elem, zq3, zy1, zq2, sub, zx3, zw2, zw3, zy3, gd, zq1, zw0, zq0, zx0, zx2, zx1, zy0, zw1, List.range', ↓reduceIte, reduceCtorEq, Nat.reduceEqDiff, Nat.reduceAdd, Nat.reduceLeDiff, Nat.reduceMul, Nat.reduceLT, Nat.reduceBEq, Int.reduceEq, tf_S2_78]
  refine (hc x (List.mem_of_getElem? hx) s i1).mono ?_
  rintro _ s2 ⟨rfl, hE, hJ⟩
  simp -implicitDefEqProofs only [evE, ↓evZ2, ↓evZ3, ↓Int.cast_ofNat_Int, implies_true, zy2, aFn, List.contains, List.elem, zq3, zy1, zq2, sub, zx3, zw2, zw3, zy3, gd, zq1, zw0, zq0, zx0, zx2, zx1, zy0, zw1, List.range', ↓reduceIte, reduceCtorEq, Nat.reduceEqDiff, Nat.reduceAdd, Nat.reduceLeDiff, Nat.reduceMul, Nat.reduceLT, Nat.reduceBEq, Int.reduceEq, tf_S2_78]
  refine zq4 (fun h => ?_) (fun h => ?_)
  · rw [if_pos h] at i2
    rw [h, Bool.true_or] at i3
    simp -implicitDefEqProofs only [evE, ↓evZ2, ↓evZ3, ↓Int.cast_ofNat_Int, implies_true, zy2, aFn, List.contains, List.elem, zq3, zy1, zq2, sub, zx3, zw2, zw3, zy3, gd, zq1, zw0, zq0, zx0, zx2, zx1, zy0, zw1, List.range', ↓reduceIte, reduceCtorEq, Nat.reduceEqDiff, Nat.reduceAdd, Nat.reduceLeDiff, Nat.reduceMul, Nat.reduceLT, Nat.reduceBEq, Int.reduceEq, tf_S2_78]
    exact ⟨by rw [i2], fun _ => hE h, fun h' => (by rw [← i3] at h'; cases h')⟩
  · rw [if_neg (by simp [h])] at i2
    rw [h, Bool.false_or] at i3
    simp -implicitDefEqProofs only [evE, ↓evZ2, ↓evZ3, ↓Int.cast_ofNat_Int, implies_true, zy2, aFn, List.contains, List.elem, zq3, zy1, zq2, sub, zx3, zw2, zw3, zy3, gd, zq1, zw0, zq0, zx0, zx2, zx1, zy0, zw1, List.range', ↓reduceIte, reduceCtorEq, Nat.reduceEqDiff, Nat.reduceAdd, Nat.reduceLeDiff, Nat.reduceMul, Nat.reduceLT, Nat.reduceBEq, Int.reduceEq, tf_S2_78]
    exact ⟨s2, ⟨hJ h, i2, i3⟩, zx7.mk (by simp -implicitDefEqProofs only [hw, evE, ↓evZ2, ↓evZ3, ↓Int.cast_ofNat_Int, implies_true, zy2, aFn, List.contains, List.elem, zq3, zy1, zq2, sub, zx3, zw2, zw3, zy3, gd, zq1, zw0, zq0, zx0, zx2, zx1, zy0, zw1, List.range', ↓reduceIte, reduceCtorEq, Nat.reduceEqDiff, Nat.reduceAdd, Nat.reduceLeDiff, Nat.reduceMul, Nat.reduceLT, Nat.reduceBEq, Int.reduceEq, tf_S2_78])⟩
abbrev tf_S2_65 := And.intro tI_3 (And.intro zI_3 (And.intro underlying3 (And.intro tI_4 (And.intro zI_4 (And.intro underlying4 (And.intro tI_5 (And.intro zI_5 (And.intro underlying5 (And.intro tI_6 (And.intro zI_6 (And.intro underlying6 (And.intro tI_7 (And.intro zI_7 (And.intro fI_7_0 (And.intro fI_7_1 (And.intro fI_7_2 (And.intro fI_7_3 (And.intro bI_7 (And.intro tI_9 (And.intro zI_9 (And.intro underlying9 (And.intro tI_23 (And.intro zI_23 (And.intro eI_23 (And.intro eB_23 (And.intro eZ_23 underlying23))))))))))))))))))))))))))
theorem c_ContainsFuncTmS (l : List Tm) (g : FuncId) (caps : List AV) (p : Tm → Bool) (J E : zy7 → Prop) (hc : ∀ x ∈ l, ∀ s, J s → zq7 prog g ([Tm.av x] ++ caps) s (fun r s' => r = .bool (p x) ∧ (p x = true → E s') ∧ (p x = false → J s'))) (st : zy7) (h0 : J st) :
    zq7 prog 65 [.slice (l.map Tm.av), .func g caps] st (fun r st' => r = .bool (l.any p) ∧ (l.any p = true → E st') ∧ (l.any p = false → J st')) := by
  refine zw6 [1000000] func65 ntmps65 rfl rfl (by kernel_rfl) (by decide +kernel) (by show 2 ≤ _; decide +kernel) ?_
  intro _
  simp -implicitDefEqProofs only [evE, ↓evZ2, ↓evZ3, ↓Int.cast_ofNat_Int, implies_true, zy2, aFn, List.contains, List.elem, zq3, zy1, zq2, sub, zx3, zw2, zw3, zy3, gd, zq1, zw0, zq0, zx0, zx2, zx1, zy0, zw1, List.range', ↓reduceIte, reduceCtorEq, Nat.reduceEqDiff, Nat.reduceAdd, Nat.reduceLeDiff, Nat.reduceMul, Nat.reduceLT, Nat.reduceBEq, Int.reduceEq, tf_S2_65]
  refine (c_IndexFuncTmS l g caps p J E hc st h0).mono ?_
  rintro _ s2 ⟨rfl, hE, hJ⟩
  simp -implicitDefEqProofs only [idxP_any, evE, ↓evZ2, ↓evZ3, ↓Int.cast_ofNat_Int, implies_true, zy2, aFn, List.contains, List.elem, zq3, zy1, zq2, sub, zx3, zw2, zw3, zy3, gd, zq1, zw0, zq0, zx0, zx2, zx1, zy0, zw1, List.range', ↓reduceIte, reduceCtorEq, Nat.reduceEqDiff, Nat.reduceAdd, Nat.reduceLeDiff, Nat.reduceMul, Nat.reduceLT, Nat.reduceBEq, Int.reduceEq, tf_S2_65]
  exact ⟨hE, hJ⟩
def Occ (R : Int → Tm) (n : Int) (t : Tm) (st : zy7) (mm : Nat) (M : List Int) (r : AV) (st' : zy7) : Prop :=
  r = .bool (decide (n ∈ (t.mapv R).vl)) ∧ ∃ M', st' = st.upd mm (.map (metOf M')) ∧ (n ∉ (t.mapv R).vl → ∀ v ∈ M', v ∈ M ∨ n ∉ (R v).vl)
abbrev tf_S2_86 := And.intro tI_3 (And.intro zI_3 (And.intro underlying3 (And.intro tI_4 (And.intro zI_4 (And.intro underlying4 (And.intro tI_6 (And.intro zI_6 (And.intro underlying6 (And.intro tI_7 (And.intro zI_7 (And.intro fI_7_0 (And.intro fI_7_1 (And.intro fI_7_2 (And.intro fI_7_3 (And.intro bI_7 (And.intro tI_8 (And.intro zI_8 (And.intro fI_8_0 (And.intro fI_8_1 (And.intro fI_8_2 (And.intro fI_8_3 (And.intro bI_8 (And.intro tI_9 (And.intro zI_9 (And.intro underlying9 (And.intro tI_10 (And.intro zI_10 (And.intro underlying10 (And.intro tI_11 (And.intro zI_11 (And.intro underlying11 (And.intro tI_25 (And.intro zI_25 (And.intro fI_25_0 (And.intro fI_25_1 (And.intro fI_25_2 (And.intro fI_25_3 (And.intro bI_25 (And.intro tI_39 (And.intro zI_39 (And.intro tI_97 (And.intro zI_97 underlying97))))))))))))))))))))))))))))))))))))))))))
theorem c_occurs_1 {c mm : Nat} {n : Int} {t : Tm} {st : zy7} {Q : AV → zy7 → Prop} (hc : zq7 prog 80 [.ptr c 0, .int .i64 n, t.av, .map mm] st Q) :
    zq7 prog 86 [t.av, .pptr (.ptr c 0), .pptr (.int .i64 n), .pptr (.map mm)] st Q := by
  refine zw6 [1000000] func86 ntmps86 rfl rfl (by kernel_rfl) (by decide +kernel) (by show 4 ≤ _; decide +kernel) ?_
  intro _
  simp -implicitDefEqProofs only [evE, ↓evZ2, ↓evZ3, ↓Int.cast_ofNat_Int, implies_true, zy2, aFn, List.contains, List.elem, zq3, zy1, zq2, sub, zx3, zw2, zw3, zy3, gd, zq1, zw0, zq0, zx0, zx2, zx1, zy0, zw1, List.range', ↓reduceIte, reduceCtorEq, Nat.reduceEqDiff, Nat.reduceAdd, Nat.reduceLeDiff, Nat.reduceMul, Nat.reduceLT, Nat.reduceBEq, Int.reduceEq, tf_S2_86]
  refine hc.mono ?_
  intro r s h
  simp -implicitDefEqProofs only [evE, ↓evZ2, ↓evZ3, ↓Int.cast_ofNat_Int, implies_true, zy2, aFn, List.contains, List.elem, zq3, zy1, zq2, sub, zx3, zw2, zw3, zy3, gd, zq1, zw0, zq0, zx0, zx2, zx1, zy0, zw1, List.range', ↓reduceIte, reduceCtorEq, Nat.reduceEqDiff, Nat.reduceAdd, Nat.reduceLeDiff, Nat.reduceMul, Nat.reduceLT, Nat.reduceBEq, Int.reduceEq, tf_S2_86]
  exact h
abbrev tf_S2_80 := And.intro tI_2 (And.intro zI_2 (And.intro underlying2 (And.intro tI_3 (And.intro zI_3 (And.intro underlying3 (And.intro tI_4 (And.intro zI_4 (And.intro underlying4 (And.intro tI_5 (And.intro zI_5 (And.intro underlying5 (And.intro tI_6 (And.intro zI_6 (And.intro underlying6 (And.intro tI_7 (And.intro zI_7 (And.intro fI_7_0 (And.intro fI_7_1 (And.intro fI_7_2 (And.intro fI_7_3 (And.intro bI_7 (And.intro tI_8 (And.intro zI_8 (And.intro fI_8_0 (And.intro fI_8_1 (And.intro fI_8_2 (And.intro fI_8_3 (And.intro bI_8 (And.intro tI_9 (And.intro zI_9 (And.intro underlying9 (And.intro tI_21 (And.intro zI_21 (And.intro underlying21 (And.intro tI_22 (And.intro zI_22 (And.intro eI_22 (And.intro eB_22 (And.intro eZ_22 (And.intro underlying22 (And.intro tI_23 (And.intro zI_23 (And.intro eI_23 (And.intro eB_23 (And.intro eZ_23 (And.intro underlying23 (And.intro tI_25 (And.intro zI_25 (And.intro fI_25_0 (And.intro fI_25_1 (And.intro fI_25_2 (And.intro fI_25_3 (And.intro bI_25 (And.intro tI_34 (And.intro zI_34 (And.intro tI_39 (And.intro zI_39 (And.intro tI_68 (And.intro zI_68 (And.intro underlying68 (And.intro tI_97 (And.intro zI_97 underlying97))))))))))))))))))))))))))))))))))))))))))))))))))))))))))))))
theorem c_occurs {σ : Sub} {R : Int → Tm} {rk : Int → Nat} {B : Nat} (G : Good σ R rk B) {n : Int} (hn : σ n = none) (c m mm : Nat) (q : AV) (hmm : mm ≠ c ∧ mm ≠ m) :
    ∀ (K : Nat) (t : Tm) (M : List Int) (st : zy7), SubAt st c m q σ → st mm = some (.map (metOf M)) → (∀ w ∈ t.vl, rk w < K) → (∀ v ∈ M, n ∉ (R v).vl ∨ ∀ w ∈ t.vl, rk w < rk v) →
    zq7 prog 80 [.ptr c 0, .int .i64 n, t.av, .map mm] st (Occ R n t st mm M)
  | K, .mk k x s ts, M, st, hS, hM, hK, hpre => by
    have IH1 := fun (K' : Nat) (hK' : K' < K) t M st => c_occurs G hn c m mm q hmm K' t M st
    have IH2 := fun (y : Tm) (hy : y ∈ ts) M st => c_occurs G hn c m mm q hmm K y M st
    have hlk := look_met (P := prog) (n := x) hM underlying97 underlying3 zV_4
    simp only [Tm.av_mk]
    refine zw6 [1000000] func80 ntmps80 rfl rfl (by kernel_rfl) (by decide +kernel) (by show 4 ≤ _; decide +kernel) ?_
    intro _
    simp -implicitDefEqProofs only [hlk, evE, ↓evZ2, ↓evZ3, ↓Int.cast_ofNat_Int, implies_true, zy2, aFn, List.contains, List.elem, zq3, zy1, zq2, sub, zx3, zw2, zw3, zy3, gd, zq1, zw0, zq0, zx0, zx2, zx1, zy0, zw1, List.range', ↓reduceIte, reduceCtorEq, Nat.reduceEqDiff, Nat.reduceAdd, Nat.reduceLeDiff, Nat.reduceMul, Nat.reduceLT, Nat.reduceBEq, Int.reduceEq, tf_S2_80]
    refine zq4 (fun h => ?_) (fun h => ?_)
    · simp only [decide_eq_true_eq] at h
      have hvl : (Tm.mk k x s ts).vl = [x] := Tm.vl_var h
      have hmv : (Tm.mk k x s ts).mapv R = R x := Tm.mapv_var R h
      have hKx : rk x < K := hK x (by rw [hvl]; simp)
      simp -implicitDefEqProofs only [hlk, evE, ↓evZ2, ↓evZ3, ↓Int.cast_ofNat_Int, implies_true, zy2, aFn, List.contains, List.elem, zq3, zy1, zq2, sub, zx3, zw2, zw3, zy3, gd, zq1, zw0, zq0, zx0, zx2, zx1, zy0, zw1, List.range', ↓reduceIte, reduceCtorEq, Nat.reduceEqDiff, Nat.reduceAdd, Nat.reduceLeDiff, Nat.reduceMul, Nat.reduceLT, Nat.reduceBEq, Int.reduceEq, tf_S2_80]
      refine zq4 (fun h2 => ?_) (fun h2 => ?_)
      · simp only [decide_eq_true_eq] at h2
        simp -implicitDefEqProofs only [hlk, evE, ↓evZ2, ↓evZ3, ↓Int.cast_ofNat_Int, implies_true, zy2, aFn, List.contains, List.elem, zq3, zy1, zq2, sub, zx3, zw2, zw3, zy3, gd, zq1, zw0, zq0, zx0, zx2, zx1, zy0, zw1, List.range', ↓reduceIte, reduceCtorEq, Nat.reduceEqDiff, Nat.reduceAdd, Nat.reduceLeDiff, Nat.reduceMul, Nat.reduceLT, Nat.reduceBEq, Int.reduceEq, tf_S2_80]
        have hno : n ∉ (R x).vl := by
          rcases hpre x h2 with h | h
          · exact h
          · exact absurd (h x (by rw [hvl]; simp)) (Nat.lt_irrefl _)
        refine ⟨by rw [hmv]; simp [hno], M, ?_, fun _ v hv => .inl hv⟩
        funext y
        simp only [zy7.upd]
        split
        · rename_i e; rw [e, hM]
        · rfl
      · simp only [decide_eq_false_iff_not] at h2
        simp -implicitDefEqProofs only [hlk, evE, ↓evZ2, ↓evZ3, ↓Int.cast_ofNat_Int, implies_true, zy2, aFn, List.contains, List.elem, zq3, zy1, zq2, sub, zx3, zw2, zw3, zy3, gd, zq1, zw0, zq0, zx0, zx2, zx1, zy0, zw1, List.range', ↓reduceIte, reduceCtorEq, Nat.reduceEqDiff, Nat.reduceAdd, Nat.reduceLeDiff, Nat.reduceMul, Nat.reduceLT, Nat.reduceBEq, Int.reduceEq, tf_S2_80]
        refine upd_met hM underlying97 underlying3 ?_
        simp -implicitDefEqProofs only [hlk, evE, ↓evZ2, ↓evZ3, ↓Int.cast_ofNat_Int, implies_true, zy2, aFn, List.contains, List.elem, zq3, zy1, zq2, sub, zx3, zw2, zw3, zy3, gd, zq1, zw0, zq0, zx0, zx2, zx1, zy0, zw1, List.range', ↓reduceIte, reduceCtorEq, Nat.reduceEqDiff, Nat.reduceAdd, Nat.reduceLeDiff, Nat.reduceMul, Nat.reduceLT, Nat.reduceBEq, Int.reduceEq, tf_S2_80]
        obtain ⟨f, hwk⟩ := G.wk (Tm.mk k x s ts)
        generalize hu : wk σ (Tm.mk k x s ts) = u at *
        have hS' := hS.upd2 (o := .map (metOf (x :: M))) hmm.1 hmm.2
        have hcw := c_walk hwk c m q _ hS'
        rw [Tm.av_mk] at hcw
        refine hcw.to ?_
        have hmvu : u.mapv R = R x := by rw [hwk.mapv G.isSol, hmv]
        have hend := hwk.end
        have hrk := hwk.rank G
        obtain ⟨k', x', s', ts'⟩ := u
        simp only [Tm.av_mk]
        simp -implicitDefEqProofs only [hlk, evE, ↓evZ2, ↓evZ3, ↓Int.cast_ofNat_Int, implies_true, zy2, aFn, List.contains, List.elem, zq3, zy1, zq2, sub, zx3, zw2, zw3, zy3, gd, zq1, zw0, zq0, zx0, zx2, zx1, zy0, zw1, List.range', ↓reduceIte, reduceCtorEq, Nat.reduceEqDiff, Nat.reduceAdd, Nat.reduceLeDiff, Nat.reduceMul, Nat.reduceLT, Nat.reduceBEq, Int.reduceEq, tf_S2_80]
        refine zq4 (fun h3 => ?_) (fun h3 => ?_)
        · simp only [decide_eq_true_eq] at h3
          simp -implicitDefEqProofs only [hlk, evE, ↓evZ2, ↓evZ3, ↓Int.cast_ofNat_Int, implies_true, zy2, aFn, List.contains, List.elem, zq3, zy1, zq2, sub, zx3, zw2, zw3, zy3, gd, zq1, zw0, zq0, zx0, zx2, zx1, zy0, zw1, List.range', ↓reduceIte, reduceCtorEq, Nat.reduceEqDiff, Nat.reduceAdd, Nat.reduceLeDiff, Nat.reduceMul, Nat.reduceLT, Nat.reduceBEq, Int.reduceEq, tf_S2_80]
          have hfree : R x' = vr x' := G.free (hend h3)
          rw [Tm.mapv_var R h3, hfree] at hmvu
          refine ⟨?_, x :: M, rfl, fun hno v hv => ?_⟩
          · rw [hmv, ← hmvu, vl_vr]
            simp [eq_comm]
          · rcases List.mem_cons.1 hv with rfl | hv
            · exact .inr (by rw [hmv] at hno; exact hno)
            · exact .inl hv
        · simp only [decide_eq_false_iff_not] at h3
          simp -implicitDefEqProofs only [hlk, evE, ↓evZ2, ↓evZ3, ↓Int.cast_ofNat_Int, implies_true, zy2, aFn, List.contains, List.elem, zq3, zy1, zq2, sub, zx3, zw2, zw3, zy3, gd, zq1, zw0, zq0, zx0, zx2, zx1, zy0, zw1, List.range', ↓reduceIte, reduceCtorEq, Nat.reduceEqDiff, Nat.reduceAdd, Nat.reduceLeDiff, Nat.reduceMul, Nat.reduceLT, Nat.reduceBEq, Int.reduceEq, tf_S2_80]
          have hf0 : f ≠ 0 := by
            rintro rfl
            cases hwk with
            | stop _ => exact h3 h
          have hr' : ∀ w ∈ (Tm.mk k' x' s' ts').vl, rk w < rk x := fun w hw => by
            obtain ⟨v, hv, _, hlt⟩ := hrk w hw
            rw [hvl] at hv
            simp only [List.mem_cons, List.not_mem_nil, or_false] at hv
            subst hv
            exact hlt hf0
          have := IH1 (rk x) hKx (Tm.mk k' x' s' ts') (x :: M) _ hS' (zy7.upd_same _ _ _) hr' (fun v hv => by
            rcases List.mem_cons.1 hv with rfl | hv
            · exact .inr hr'
            · rcases hpre v hv with h5 | h5
              · exact .inl h5
              · refine .inr fun w hw => Nat.lt_trans (hr' w hw) ?_
                exact h5 x (by rw [hvl]; simp))
          rw [Tm.av_mk] at this
          refine this.mono ?_
          rintro _ _ ⟨rfl, M', rfl, hM'⟩
          simp -implicitDefEqProofs only [hlk, evE, ↓evZ2, ↓evZ3, ↓Int.cast_ofNat_Int, implies_true, zy2, aFn, List.contains, List.elem, zq3, zy1, zq2, sub, zx3, zw2, zw3, zy3, gd, zq1, zw0, zq0, zx0, zx2, zx1, zy0, zw1, List.range', ↓reduceIte, reduceCtorEq, Nat.reduceEqDiff, Nat.reduceAdd, Nat.reduceLeDiff, Nat.reduceMul, Nat.reduceLT, Nat.reduceBEq, Int.reduceEq, tf_S2_80]
          rw [hmvu] at hM' ⊢
          refine ⟨by rw [hmv], M', rfl, fun hno v hv => ?_⟩
          rw [hmv] at hno
          rcases hM' hno v hv with h5 | h5
          · rcases List.mem_cons.1 h5 with rfl | h5
            · exact .inr hno
            · exact .inl h5
          · exact .inr h5
    · simp only [decide_eq_false_iff_not] at h
      simp -implicitDefEqProofs only [hlk, evE, ↓evZ2, ↓evZ3, ↓Int.cast_ofNat_Int, implies_true, zy2, aFn, List.contains, List.elem, zq3, zy1, zq2, sub, zx3, zw2, zw3, zy3, gd, zq1, zw0, zq0, zx0, zx2, zx1, zy0, zw1, List.range', ↓reduceIte, reduceCtorEq, Nat.reduceEqDiff, Nat.reduceAdd, Nat.reduceLeDiff, Nat.reduceMul, Nat.reduceLT, Nat.reduceBEq, Int.reduceEq, tf_S2_80]
      have hmv := Tm.mapv_mk R (n := x) (s := s) (ts := ts) h
      have hany : ts.any (fun y => decide (n ∈ (y.mapv R).vl)) = decide (n ∈ ((Tm.mk k x s ts).mapv R).vl) := by
        rw [hmv, Bool.eq_iff_iff]
        simp only [List.any_eq_true, decide_eq_true_eq]
        rw [Tm.vl_mk h]
        constructor
        · rintro ⟨y, hy, h2⟩; exact ⟨_, List.mem_map.2 ⟨y, hy, rfl⟩, h2⟩
        · rintro ⟨z, hz, h2⟩
          obtain ⟨y, hy, rfl⟩ := List.mem_map.1 hz
          exact ⟨y, hy, h2⟩
      refine (c_ContainsFuncTmS ts _ _ (fun y => decide (n ∈ (y.mapv R).vl)) (fun s1 => ∃ M', s1 = st.upd mm (.map (metOf M')) ∧ ∀ v ∈ M', v ∈ M ∨ n ∉ (R v).vl) (fun s1 => ∃ M', s1 = st.upd mm (.map (metOf M'))) ?_ st ⟨M, ?_, fun v hv => .inl hv⟩).mono ?_
      · rintro y hy s1 ⟨M', rfl, hM'⟩
        simp only [List.cons_append, List.nil_append]
        have hc := IH2 y hy M' (st.upd mm (.map (metOf M'))) (hS.upd2 hmm.1 hmm.2) (zy7.upd_same _ _ _) (fun w hw => hK w ((Tm.vl_mk h).2 ⟨y, hy, hw⟩)) (fun v hv => by
          rcases hM' v hv with h5 | h5
          · rcases hpre v h5 with h6 | h6
            · exact .inl h6
            · exact .inr fun w hw => h6 w ((Tm.vl_mk h).2 ⟨y, hy, hw⟩)
          · exact .inl h5)
        refine (c_occurs_1 hc).mono ?_
        rintro _ _ ⟨rfl, M2, rfl, hM2⟩
        rw [zy7.upd_upd]
        refine ⟨rfl, fun _ => ⟨M2, rfl⟩, fun hno => ⟨M2, rfl, fun v hv => ?_⟩⟩
        simp only [decide_eq_false_iff_not] at hno
        rcases hM2 hno v hv with h5 | h5
        · exact hM' v h5
        · exact .inr h5
      · funext y
        simp only [zy7.upd]
        split
        · rename_i e; rw [e, hM]
        · rfl
      · rintro _ s2 ⟨rfl, hE, hJ⟩
        rw [hany] at hE hJ ⊢
        simp -implicitDefEqProofs only [hlk, evE, ↓evZ2, ↓evZ3, ↓Int.cast_ofNat_Int, implies_true, zy2, aFn, List.contains, List.elem, zq3, zy1, zq2, sub, zx3, zw2, zw3, zy3, gd, zq1, zw0, zq0, zx0, zx2, zx1, zy0, zw1, List.range', ↓reduceIte, reduceCtorEq, Nat.reduceEqDiff, Nat.reduceAdd, Nat.reduceLeDiff, Nat.reduceMul, Nat.reduceLT, Nat.reduceBEq, Int.reduceEq, tf_S2_80]
        by_cases hno : n ∈ ((Tm.mk k x s ts).mapv R).vl
        · obtain ⟨M2, rfl⟩ := hE (by simp [hno])
          exact ⟨rfl, M2, rfl, fun h => absurd hno h⟩
        · obtain ⟨M2, rfl, h5⟩ := hJ (by simp [hno])
          exact ⟨rfl, M2, rfl, fun _ => h5⟩
termination_by K t => (K, SizeOf.sizeOf t)
decreasing_by
  · exact Prod.Lex.left _ _ hK'
  · have := List.sizeOf_lt_of_mem hy
    exact Prod.Lex.right _ (by simp only [Tm.mk.sizeOf_spec]; omega)
end Go.AW


namespace Go.AW
open Go.Proofs.Try
set_option linter.unusedSimpArgs false
set_option maxRecDepth 100000
abbrev tf_S3_69 := And.intro tI_2 (And.intro zI_2 (And.intro underlying2 (And.intro tI_3 (And.intro zI_3 (And.intro underlying3 (And.intro tI_4 (And.intro zI_4 (And.intro underlying4 (And.intro tI_5 (And.intro zI_5 (And.intro underlying5 (And.intro tI_7 (And.intro zI_7 (And.intro fI_7_0 (And.intro fI_7_1 (And.intro fI_7_2 (And.intro fI_7_3 (And.intro bI_7 (And.intro tI_8 (And.intro zI_8 (And.intro fI_8_0 (And.intro fI_8_1 (And.intro fI_8_2 (And.intro fI_8_3 (And.intro bI_8 (And.intro tI_9 (And.intro zI_9 (And.intro underlying9 (And.intro tI_10 (And.intro zI_10 (And.intro underlying10 (And.intro tI_11 (And.intro zI_11 (And.intro underlying11 (And.intro tI_22 (And.intro zI_22 (And.intro eI_22 (And.intro eB_22 (And.intro eZ_22 (And.intro underlying22 (And.intro tI_24 (And.intro zI_24 (And.intro fI_24_0 (And.intro fI_24_1 (And.intro fI_24_2 (And.intro fI_24_3 (And.intro bI_24 (And.intro tI_25 (And.intro zI_25 (And.intro fI_25_0 (And.intro fI_25_1 (And.intro fI_25_2 (And.intro fI_25_3 (And.intro bI_25 (And.intro tI_39 (And.intro zI_39 (And.intro tI_58 (And.intro zI_58 (And.intro fI_58_0 (And.intro fI_58_1 (And.intro bI_58 (And.intro tI_61 (And.intro zI_61 (And.intro eI_61 (And.intro eB_61 (And.intro eZ_61 (And.intro underlying61 (And.intro tI_68 (And.intro zI_68 (And.intro underlying68 (And.intro tI_70 (And.intro zI_70 (And.intro fI_70_0 (And.intro fI_70_1 (And.intro bI_70 (And.intro tI_97 (And.intro zI_97 underlying97)))))))))))))))))))))))))))))))))))))))))))))))))))))))))))))))))))))))))))))
theorem c_bind {σ : Sub} (hg : IsGood σ) {n : Int} (hn : σ n = none) {t : Tm} {r : Bool} {σ' : Sub} {add : List Int} (hb : bnd σ n t = (r, σ', add)) (c m : Nat) (q : AV) (tr : List Int) (st : zy7) (hS : Sto st c m q σ tr) (hl : tr.length + add.length ≤ 1099511627776) :
    zq7 prog 69 [.ptr c 0, .int .i64 n, t.av] st (fun r' st' => r' = .bool r ∧ Post c m st q σ' (tr ++ add) st') := by
  obtain ⟨rk, B, G⟩ := hg.rs
  refine zw6 [1000000] func69 ntmps69 rfl rfl (by kernel_rfl) (by decide +kernel) (by show 3 ≤ _; decide +kernel) ?_
  intro _
  simp -implicitDefEqProofs only [evE, ↓evZ2, ↓evZ3, ↓Int.cast_ofNat_Int, implies_true, zy2, aFn, List.contains, List.elem, zq3, zy1, zq2, sub, zx3, zw2, zw3, zy3, gd, zq1, zw0, zq0, zx0, zx2, zx1, zy0, zw1, List.range', ↓reduceIte, reduceCtorEq, Nat.reduceEqDiff, Nat.reduceAdd, Nat.reduceLeDiff, Nat.reduceMul, Nat.reduceLT, Nat.reduceBEq, Int.reduceEq, tf_S3_69]
  intro mm hmm
  obtain ⟨hmc, hmm'⟩ := hS.sub.ne hmm
  rw [← metOf_nil]
  have hS1 := hS.upd0 (o := .map (metOf [])) hmm
  refine (c_occurs G hn c m mm q ⟨hmc, hmm'⟩ B t [] _ hS1.sub (zy7.upd_same _ _ _) (fun w _ => G.bd w) (fun v hv => absurd hv (List.not_mem_nil))).mono ?_
  rintro _ _ ⟨rfl, M', rfl, _⟩
  have hS2 := hS.upd0 (o := .map (metOf M')) hmm
  have hQ2 : StepQ c m st q (st.upd mm (.map (metOf M'))) q := StepQ.upd0 hmm
  rw [zy7.upd_upd]
  generalize st.upd mm (.map (metOf M')) = s2 at *
  obtain ⟨hqa, hqw, hqj, hqc, hqs⟩ := hS2.shape
  simp -implicitDefEqProofs only [zy4, hS2.sub.cells, hqa, hqw, hqj, hqs, evE, ↓evZ2, ↓evZ3, ↓Int.cast_ofNat_Int, implies_true, zy2, aFn, List.contains, List.elem, zq3, zy1, zq2, sub, zx3, zw2, zw3, zy3, gd, zq1, zw0, zq0, zx0, zx2, zx1, zy0, zw1, List.range', ↓reduceIte, reduceCtorEq, Nat.reduceEqDiff, Nat.reduceAdd, Nat.reduceLeDiff, Nat.reduceMul, Nat.reduceLT, Nat.reduceBEq, Int.reduceEq, tf_S3_69]
  unfold bnd at hb
  refine zq4 (fun h => ?_) (fun h => ?_)
  · simp only [decide_eq_true_eq] at h
    rw [if_pos h] at hb
    obtain ⟨rfl, rfl, rfl⟩ : false = r ∧ σ = σ' ∧ [] = add := by simpa using hb
    simp -implicitDefEqProofs only [zy4, hS2.sub.cells, hqa, hqw, hqj, hqs, evE, ↓evZ2, ↓evZ3, ↓Int.cast_ofNat_Int, implies_true, zy2, aFn, List.contains, List.elem, zq3, zy1, zq2, sub, zx3, zw2, zw3, zy3, gd, zq1, zw0, zq0, zx0, zx2, zx1, zy0, zw1, List.range', ↓reduceIte, reduceCtorEq, Nat.reduceEqDiff, Nat.reduceAdd, Nat.reduceLeDiff, Nat.reduceMul, Nat.reduceLT, Nat.reduceBEq, Int.reduceEq, tf_S3_69]
    exact ⟨q, hS2, hQ2⟩
  · simp only [decide_eq_false_iff_not] at h
    rw [if_neg h] at hb
    obtain ⟨rfl, rfl, rfl⟩ : true = r ∧ σ.set n t = σ' ∧ [n] = add := by simpa using hb
    simp -implicitDefEqProofs only [zy4, hS2.sub.cells, hqa, hqw, hqj, hqs, evE, ↓evZ2, ↓evZ3, ↓Int.cast_ofNat_Int, implies_true, zy2, aFn, List.contains, List.elem, zq3, zy1, zq2, sub, zx3, zw2, zw3, zy3, gd, zq1, zw0, zq0, zx0, zx2, zx1, zy0, zw1, List.range', ↓reduceIte, reduceCtorEq, Nat.reduceEqDiff, Nat.reduceAdd, Nat.reduceLeDiff, Nat.reduceMul, Nat.reduceLT, Nat.reduceBEq, Int.reduceEq, tf_S3_69]
    refine zx5 [(0, 1), (1, 1), (2, 1), (4, 1), (3, 2), (5, 2), (6, 0)] [0, 1, 2, 4, 3, 5] mixed (by decide +kernel) (by decide +kernel) (by decide +kernel) ?_
    simp -implicitDefEqProofs only [zy4, hS2.sub.cells, hqa, hqw, hqj, hqs, evE, ↓evZ2, ↓evZ3, ↓Int.cast_ofNat_Int, implies_true, zy2, aFn, List.contains, List.elem, zq3, zy1, zq2, sub, zx3, zw2, zw3, zy3, gd, zq1, zw0, zq0, zx0, zx2, zx1, zy0, zw1, List.range', ↓reduceIte, reduceCtorEq, Nat.reduceEqDiff, Nat.reduceAdd, Nat.reduceLeDiff, Nat.reduceMul, Nat.reduceLT, Nat.reduceBEq, Int.reduceEq, tf_S3_69]
    refine upd_sub hS2.sub.map underlying68 underlying3 ?_
    have hcm := hS2.sub.cm
    have hS3 : Sto (s2.upd m (.map (mapOf (σ.set n t)))) c m q (σ.set n t) tr := by
      refine ⟨⟨by rw [zy7.upd_ne _ _ hcm]; exact hS2.sub.cells, zy7.upd_same _ _ _⟩, ?_, hS2.apart⟩
      rcases hS2.trail with h4 | ⟨b', cs, e1, e2, e3⟩
      · exact .inl h4
      · refine .inr ⟨b', cs, e1, ?_, e3⟩
        rw [zy7.upd_ne _ _ (by rintro rfl; exact hS2.m_apart (by rw [e1]; simp [tbk]))]
        exact e2
    have hQ3 : StepQ c m st q (s2.upd m (.map (mapOf (σ.set n t)))) q := ⟨fun b o h h1 h2 h3 => by rw [zy7.upd_ne _ _ h2]; exact hQ2.frame b o h h1 h2 h3, fun _ h => .inl h⟩
    generalize s2.upd m (.map (mapOf (σ.set n t))) = s3 at *
    simp -implicitDefEqProofs only [zy4, hS3.sub.cells, hqa, hqw, hqj, hqs, evE, ↓evZ2, ↓evZ3, ↓Int.cast_ofNat_Int, implies_true, zy2, aFn, List.contains, List.elem, zq3, zy1, zq2, sub, zx3, zw2, zw3, zy3, gd, zq1, zw0, zq0, zx0, zx2, zx1, zy0, zw1, List.range', ↓reduceIte, reduceCtorEq, Nat.reduceEqDiff, Nat.reduceAdd, Nat.reduceLeDiff, Nat.reduceMul, Nat.reduceLT, Nat.reduceBEq, Int.reduceEq, tf_S3_69]
    refine trail_append eI_61 eB_61 eZ_61 rfl (by omega) hS3 (by simpa using hl) (fun q' s4 ht hc' hm' hk hf => ?_)
    have h4c : s4 c = some (.cells [.map m, q]) := by rw [hk c hS3.apart hc']; exact hS3.sub.cells
    have h4m : s4 m = some (.map (mapOf (σ.set n t))) := by rw [hk m hS3.m_apart hm']; exact hS3.sub.map
    have hqc' : q'.cells = [q'] ∧ q'.storable = true := by
      rcases ht with ⟨rfl, _⟩ | ⟨b', cs, rfl, _⟩ <;> exact ⟨rfl, rfl⟩
    simp -implicitDefEqProofs only [zy4, h4c, hqc'.1, hqc'.2, evE, ↓evZ2, ↓evZ3, ↓Int.cast_ofNat_Int, implies_true, zy2, aFn, List.contains, List.elem, zq3, zy1, zq2, sub, zx3, zw2, zw3, zy3, gd, zq1, zw0, zq0, zx0, zx2, zx1, zy0, zw1, List.range', ↓reduceIte, reduceCtorEq, Nat.reduceEqDiff, Nat.reduceAdd, Nat.reduceLeDiff, Nat.reduceMul, Nat.reduceLT, Nat.reduceBEq, Int.reduceEq, tf_S3_69]
    refine ⟨q', ⟨⟨zy7.upd_same _ _ _, by rw [zy7.upd_ne _ _ (Ne.symm hcm)]; exact h4m⟩, ?_, hc'⟩, ⟨fun b o h h1 h2 h3 => ?_, fun b hb => ?_⟩⟩
    · rcases ht with h4 | ⟨b', cs, e1, e2, e3⟩
      · exact .inl h4
      · refine .inr ⟨b', cs, e1, ?_, e3⟩
        rw [zy7.upd_ne _ _ (by rintro rfl; exact hc' (by rw [e1]; simp [tbk]))]
        exact e2
    · rw [zy7.upd_ne _ _ h1, hk b h3 (fun h4 => ?_)]
      · exact hQ3.frame b o h h1 h2 h3
      · rcases hf b h4 with h5 | h5
        · exact h3 h5
        · rw [hQ3.frame b o h h1 h2 h3] at h5; cases h5
    · rcases hf b hb with h5 | h5
      · exact .inl h5
      · by_cases h6 : b ∈ tbk q
        · exact .inl h6
        · refine .inr ?_
          cases hst : st b with
          | none => rfl
          | some o =>
            exfalso
            have h1 : b ≠ c := by rintro rfl; rw [hS3.sub.cells] at h5; cases h5
            have h2 : b ≠ m := by rintro rfl; rw [hS3.sub.map] at h5; cases h5
            rw [hQ3.frame b o hst h1 h2 h6] at h5; cases h5
end Go.AW


namespace Go.AW
open Go.Proofs.Try
set_option linter.unusedSimpArgs false
set_option maxRecDepth 100000
abbrev Sm (t : Tm) : Prop := t.small = true
theorem sm_kids : ∀ t : Tm, t.k ≠ 1 → Sm t → ∀ x ∈ t.ts, Sm x := fun t _ h x hx => by
  cases t
  exact (Tm.small_mk h).2 x hx
abbrev tf_S4_43 := And.intro tI_2 (And.intro zI_2 (And.intro underlying2 (And.intro tI_3 (And.intro zI_3 (And.intro underlying3 (And.intro tI_4 (And.intro zI_4 (And.intro underlying4 (And.intro tI_5 (And.intro zI_5 (And.intro underlying5 (And.intro tI_6 (And.intro zI_6 (And.intro underlying6 (And.intro tI_7 (And.intro zI_7 (And.intro fI_7_0 (And.intro fI_7_1 (And.intro fI_7_2 (And.intro fI_7_3 (And.intro bI_7 (And.intro tI_8 (And.intro zI_8 (And.intro fI_8_0 (And.intro fI_8_1 (And.intro fI_8_2 (And.intro fI_8_3 (And.intro bI_8 (And.intro tI_9 (And.intro zI_9 (And.intro underlying9 (And.intro tI_10 (And.intro zI_10 (And.intro underlying10 (And.intro tI_11 (And.intro zI_11 (And.intro underlying11 (And.intro tI_12 (And.intro zI_12 (And.intro underlying12 (And.intro tI_13 (And.intro zI_13 (And.intro fI_13_0 (And.intro fI_13_1 (And.intro bI_13 (And.intro tI_14 (And.intro zI_14 (And.intro fI_14_0 (And.intro fI_14_1 (And.intro bI_14 (And.intro tI_15 (And.intro zI_15 (And.intro tI_16 (And.intro zI_16 (And.intro tI_19 (And.intro zI_19 (And.intro fI_19_0 (And.intro bI_19 (And.intro tI_23 (And.intro zI_23 (And.intro eI_23 (And.intro eB_23 (And.intro eZ_23 (And.intro underlying23 (And.intro tI_25 (And.intro zI_25 (And.intro fI_25_0 (And.intro fI_25_1 (And.intro fI_25_2 (And.intro fI_25_3 (And.intro bI_25 (And.intro tI_34 (And.intro zI_34 (And.intro tI_39 (And.intro zI_39 (And.intro tI_68 (And.intro zI_68 (And.intro underlying68 (And.intro tI_69 (And.intro zI_69 (And.intro fI_69_0 (And.intro fI_69_1 (And.intro bI_69 (And.intro tI_70 (And.intro zI_70 (And.intro fI_70_0 (And.intro fI_70_1 (And.intro bI_70 (And.intro tI_97 (And.intro zI_97 underlying97))))))))))))))))))))))))))))))))))))))))))))))))))))))))))))))))))))))))))))))))))))))))))
theorem c_unify : ∀ (g : Nat) (σ : Sub) (a b : Tm) (r : Bool) (σ' : Sub) (add : List Int), IsGood σ → AllS Sm σ → Sm a → Sm b → uniF g σ a b = some (r, σ', add) → ∀ (c m : Nat) (q : AV) (tr : List Int) (st : zy7), Sto st c m q σ tr → tr.length + add.length ≤ 1099511627776 →
    zq7 prog 43 [.ptr c 0, a.av, b.av] st (fun r' st' => r' = .bool r ∧ Post c m st q σ' (tr ++ add) st')
  | 0, σ, a, b, r, σ', add, hg, hsm, ha0, hb0, h, c, m, q, tr, st, hS, hl => by simp only [uniF] at h; cases h
  | g + 1, σ, a, b, r, σ', add, hg, hsm, ha0, hb0, h, c, m, q, tr, st, hS, hl => by
    have IH := c_unify g
    obtain ⟨rk, B, G⟩ := hg.rs
    obtain ⟨fa, wa⟩ := G.wk a
    obtain ⟨fb, wb⟩ := G.wk b
    have hca := fun st (hS : SubAt st c m q σ) => c_walk wa c m q st hS
    have hcb := fun st (hS : SubAt st c m q σ) => c_walk wb c m q st hS
    have ea := wa.end
    have eb := wb.end
    have hsa := wa.all (p := Sm) hsm ha0
    have hsb := wb.all (p := Sm) hsm hb0
    replace h := uniF_cases h
    generalize wk σ a = a1 at *
    generalize wk σ b = b1 at *
    clear wa wb
    refine zw6 [1000000, 4, 5] func43 ntmps43 rfl rfl (by kernel_rfl) (by decide +kernel) (by show 3 ≤ _; decide +kernel) ?_
    intro hfit
    simp -implicitDefEqProofs only [zy4, evE, ↓evZ2, ↓evZ3, ↓Int.cast_ofNat_Int, implies_true, zy2, aFn, List.contains, List.elem, zq3, zy1, zq2, sub, zx3, zw2, zw3, zy3, gd, zq1, zw0, zq0, zx0, zx2, zx1, zy0, zw1, List.range', ↓reduceIte, reduceCtorEq, Nat.reduceEqDiff, Nat.reduceAdd, Nat.reduceLeDiff, Nat.reduceMul, Nat.reduceLT, Nat.reduceBEq, Int.reduceEq, tf_S4_43]
    intro b4 h4 b5 h5
    have h54 : b5 ≠ b4 := by rintro rfl; rw [zy7.upd_same] at h5; cases h5
    have hn5 : st b5 = none := by rw [zy7.upd_ne st _ h54] at h5; exact h5
    have hS' : ∀ o o', Sto ((st.upd b4 o).upd b5 o') c m q σ tr := fun o o' => (hS.upd0 h4).upd0 (by rw [zy7.upd_ne _ _ h54]; exact hn5)
    refine zx5 [(0, 1), (3, 1), (1, 2), (2, 2), (4, 2), (5, 2), (6, 0), (7, 0)] [0, 3, 1, 2, 4, 5] mixed (by decide +kernel) (by decide +kernel) (by decide +kernel) ?_
    simp -implicitDefEqProofs only [zy4, h54, h54.symm, evE, ↓evZ2, ↓evZ3, ↓Int.cast_ofNat_Int, implies_true, zy2, aFn, List.contains, List.elem, zq3, zy1, zq2, sub, zx3, zw2, zw3, zy3, gd, zq1, zw0, zq0, zx0, zx2, zx1, zy0, zw1, List.range', ↓reduceIte, reduceCtorEq, Nat.reduceEqDiff, Nat.reduceAdd, Nat.reduceLeDiff, Nat.reduceMul, Nat.reduceLT, Nat.reduceBEq, Int.reduceEq, tf_S4_43]
    refine zw4 (hca _ (hS' _ _).sub) ?_
    simp -implicitDefEqProofs only [zy4, h54, h54.symm, evE, ↓evZ2, ↓evZ3, ↓Int.cast_ofNat_Int, implies_true, zy2, aFn, List.contains, List.elem, zq3, zy1, zq2, sub, zx3, zw2, zw3, zy3, gd, zq1, zw0, zq0, zx0, zx2, zx1, zy0, zw1, List.range', ↓reduceIte, reduceCtorEq, Nat.reduceEqDiff, Nat.reduceAdd, Nat.reduceLeDiff, Nat.reduceMul, Nat.reduceLT, Nat.reduceBEq, Int.reduceEq, tf_S4_43]
    refine zw4 (hcb _ (hS' _ _).sub) ?_
    obtain ⟨ka, na, sa, tsa⟩ := a1
    obtain ⟨kb, nb, sb', tsb⟩ := b1
    obtain ⟨hla, hlas⟩ := Tm.small_mk hsa
    obtain ⟨hlb, hlbs⟩ := Tm.small_mk hsb
    simp only [Tm.av_mk]
    simp only [Tm.k, Tm.n, Tm.s, Tm.ts] at h ea eb
    have hl4 : ∀ q', q' = q → b4 ∉ tbk q := fun _ _ hb => by obtain ⟨cs, e⟩ := hS.tb_some b4 hb; rw [h4] at e; cases e
    have hl5 : b5 ∉ tbk q := fun hb => by obtain ⟨cs, e⟩ := hS.tb_some b5 hb; rw [hn5] at e; cases e
    obtain ⟨h4c, h4m⟩ := hS.sub.ne h4
    obtain ⟨h5c, h5m⟩ := hS.sub.ne hn5
    have hQ : ∀ o o', StepQ c m st q ((st.upd b4 o).upd b5 o') q := fun o o' => ⟨fun x p h _ _ _ => by
      rw [zy7.upd_ne _ _ (by rintro rfl; rw [hn5] at h; cases h), zy7.upd_ne _ _ (by rintro rfl; rw [h4] at h; cases h)]; exact h, fun _ h => .inl h⟩
    simp -implicitDefEqProofs only [zy4, h54, h54.symm, evE, ↓evZ2, ↓evZ3, ↓Int.cast_ofNat_Int, implies_true, zy2, aFn, List.contains, List.elem, zq3, zy1, zq2, sub, zx3, zw2, zw3, zy3, gd, zq1, zw0, zq0, zx0, zx2, zx1, zy0, zw1, List.range', ↓reduceIte, reduceCtorEq, Nat.reduceEqDiff, Nat.reduceAdd, Nat.reduceLeDiff, Nat.reduceMul, Nat.reduceLT, Nat.reduceBEq, Int.reduceEq, tf_S4_43]
    rw [zy7.upd_mid h54, zy7.upd_mid h54.symm]
    have hfin : ∀ o o', Post c m st q σ tr ((st.upd b4 o).upd b5 o') := fun o o' => ⟨q, hS' _ _, hQ _ _⟩
    rcases h with ⟨h1, h2, h3, rfl, rfl, rfl⟩ | ⟨h1, h2, h3⟩ | ⟨h1, h2, h3⟩ | ⟨h1, h2, h3, h4⟩ | ⟨h1, h2, h3, rfl, rfl, rfl⟩
    · subst h1 h2 h3
      simp -implicitDefEqProofs only [decide_true, zy4, h54, h54.symm, evE, ↓evZ2, ↓evZ3, ↓Int.cast_ofNat_Int, implies_true, zy2, aFn, List.contains, List.elem, zq3, zy1, zq2, sub, zx3, zw2, zw3, zy3, gd, zq1, zw0, zq0, zx0, zx2, zx1, zy0, zw1, List.range', ↓reduceIte, reduceCtorEq, Nat.reduceEqDiff, Nat.reduceAdd, Nat.reduceLeDiff, Nat.reduceMul, Nat.reduceLT, Nat.reduceBEq, Int.reduceEq, tf_S4_43]
      exact hfin _ _
    · subst h1
      have hcb := c_bind hg (ea rfl) h3 c m q tr _ (hS' (.cells [.int .i64 1, .int .i64 na, .str sa, .slice (tsa.map Tm.av)]) (.cells [.int .i64 kb, .int .i64 nb, .str sb', .slice (tsb.map Tm.av)])) hl
      rw [Tm.av_mk] at hcb
      by_cases h5 : kb = 1
      · subst h5
        have h6 : ¬ na = nb := fun e => h2 ⟨rfl, e⟩
        simp -implicitDefEqProofs only [decide_true, h6, decide_false, zy4, h54, h54.symm, evE, ↓evZ2, ↓evZ3, ↓Int.cast_ofNat_Int, implies_true, zy2, aFn, List.contains, List.elem, zq3, zy1, zq2, sub, zx3, zw2, zw3, zy3, gd, zq1, zw0, zq0, zx0, zx2, zx1, zy0, zw1, List.range', ↓reduceIte, reduceCtorEq, Nat.reduceEqDiff, Nat.reduceAdd, Nat.reduceLeDiff, Nat.reduceMul, Nat.reduceLT, Nat.reduceBEq, Int.reduceEq, tf_S4_43]
        refine hcb.mono ?_
        rintro _ s2 ⟨rfl, hp⟩
        simp -implicitDefEqProofs only [zy4, h54, h54.symm, evE, ↓evZ2, ↓evZ3, ↓Int.cast_ofNat_Int, implies_true, zy2, aFn, List.contains, List.elem, zq3, zy1, zq2, sub, zx3, zw2, zw3, zy3, gd, zq1, zw0, zq0, zx0, zx2, zx1, zy0, zw1, List.range', ↓reduceIte, reduceCtorEq, Nat.reduceEqDiff, Nat.reduceAdd, Nat.reduceLeDiff, Nat.reduceMul, Nat.reduceLT, Nat.reduceBEq, Int.reduceEq, tf_S4_43]
        exact hp.from (hQ _ _) (hS' _ _)
      · simp -implicitDefEqProofs only [decide_true, h5, decide_false, zy4, h54, h54.symm, evE, ↓evZ2, ↓evZ3, ↓Int.cast_ofNat_Int, implies_true, zy2, aFn, List.contains, List.elem, zq3, zy1, zq2, sub, zx3, zw2, zw3, zy3, gd, zq1, zw0, zq0, zx0, zx2, zx1, zy0, zw1, List.range', ↓reduceIte, reduceCtorEq, Nat.reduceEqDiff, Nat.reduceAdd, Nat.reduceLeDiff, Nat.reduceMul, Nat.reduceLT, Nat.reduceBEq, Int.reduceEq, tf_S4_43]
        refine hcb.mono ?_
        rintro _ s2 ⟨rfl, hp⟩
        simp -implicitDefEqProofs only [zy4, h54, h54.symm, evE, ↓evZ2, ↓evZ3, ↓Int.cast_ofNat_Int, implies_true, zy2, aFn, List.contains, List.elem, zq3, zy1, zq2, sub, zx3, zw2, zw3, zy3, gd, zq1, zw0, zq0, zx0, zx2, zx1, zy0, zw1, List.range', ↓reduceIte, reduceCtorEq, Nat.reduceEqDiff, Nat.reduceAdd, Nat.reduceLeDiff, Nat.reduceMul, Nat.reduceLT, Nat.reduceBEq, Int.reduceEq, tf_S4_43]
        exact hp.from (hQ _ _) (hS' _ _)
    · subst h2
      have hcb := c_bind hg (eb rfl) h3 c m q tr _ (hS' (.cells [.int .i64 ka, .int .i64 na, .str sa, .slice (tsa.map Tm.av)]) (.cells [.int .i64 1, .int .i64 nb, .str sb', .slice (tsb.map Tm.av)])) hl
      rw [Tm.av_mk] at hcb
      simp -implicitDefEqProofs only [decide_true, h1, decide_false, zy4, h54, h54.symm, evE, ↓evZ2, ↓evZ3, ↓Int.cast_ofNat_Int, implies_true, zy2, aFn, List.contains, List.elem, zq3, zy1, zq2, sub, zx3, zw2, zw3, zy3, gd, zq1, zw0, zq0, zx0, zx2, zx1, zy0, zw1, List.range', ↓reduceIte, reduceCtorEq, Nat.reduceEqDiff, Nat.reduceAdd, Nat.reduceLeDiff, Nat.reduceMul, Nat.reduceLT, Nat.reduceBEq, Int.reduceEq, tf_S4_43]
      refine hcb.mono ?_
      rintro _ s2 ⟨rfl, hp⟩
      simp -implicitDefEqProofs only [zy4, h54, h54.symm, evE, ↓evZ2, ↓evZ3, ↓Int.cast_ofNat_Int, implies_true, zy2, aFn, List.contains, List.elem, zq3, zy1, zq2, sub, zx3, zw2, zw3, zy3, gd, zq1, zw0, zq0, zx0, zx2, zx1, zy0, zw1, List.range', ↓reduceIte, reduceCtorEq, Nat.reduceEqDiff, Nat.reduceAdd, Nat.reduceLeDiff, Nat.reduceMul, Nat.reduceLT, Nat.reduceBEq, Int.reduceEq, tf_S4_43]
      exact hp.from (hQ _ _) (hS' _ _)
    · rw [headEq_iff] at h3
      simp only [Tm.k, Tm.n, Tm.s, Tm.ts] at h3
      obtain ⟨rfl, rfl, rfl, hlen⟩ := h3
      have hlen' : decide ((tsa.length : Int) = (tsb.length : Int)) = true := by simp [hlen]
      simp -implicitDefEqProofs only [decide_true, decide_false, hlen', zy4, h54, h54.symm, List.length_map, h1, evE, ↓evZ2, ↓evZ3, ↓Int.cast_ofNat_Int, implies_true, zy2, aFn, List.contains, List.elem, zq3, zy1, zq2, sub, zx3, zw2, zw3, zy3, gd, zq1, zw0, zq0, zx0, zx2, zx1, zy0, zw1, List.range', ↓reduceIte, reduceCtorEq, Nat.reduceEqDiff, Nat.reduceAdd, Nat.reduceLeDiff, Nat.reduceMul, Nat.reduceLT, Nat.reduceBEq, Int.reduceEq, tf_S4_43]
      have hS0 := hS' (.cells [.int .i64 ka, .int .i64 na, .str sa, .slice (tsa.map Tm.av)]) (.cells [.int .i64 ka, .int .i64 na, .str sa, .slice (tsb.map Tm.av)])
      have hQ0 := hQ (.cells [.int .i64 ka, .int .i64 na, .str sa, .slice (tsa.map Tm.av)]) (.cells [.int .i64 ka, .int .i64 na, .str sa, .slice (tsb.map Tm.av)])
      have e4 : ((st.upd b4 (.cells [.int .i64 ka, .int .i64 na, .str sa, .slice (tsa.map Tm.av)])).upd b5 (.cells [.int .i64 ka, .int .i64 na, .str sa, .slice (tsb.map Tm.av)])) b4 = some (.cells [.int .i64 ka, .int .i64 na, .str sa, .slice (tsa.map Tm.av)]) := by rw [zy7.upd_ne _ _ h54.symm, zy7.upd_same]
      have e5 : ((st.upd b4 (.cells [.int .i64 ka, .int .i64 na, .str sa, .slice (tsa.map Tm.av)])).upd b5 (.cells [.int .i64 ka, .int .i64 na, .str sa, .slice (tsb.map Tm.av)])) b5 = some (.cells [.int .i64 ka, .int .i64 na, .str sa, .slice (tsb.map Tm.av)]) := zy7.upd_same _ _ _
      generalize (st.upd b4 (.cells [.int .i64 ka, .int .i64 na, .str sa, .slice (tsa.map Tm.av)])).upd b5 (.cells [.int .i64 ka, .int .i64 na, .str sa, .slice (tsb.map Tm.av)]) = s0 at *
      refine zy5 (σ := Sub × List Int × List Int × AV × zy7) [1000000, 4, 5] [0, 4, 5, 79] tsa
        (fun i p => IsGood p.1 ∧ AllS Sm p.1 ∧ Sto p.2.2.2.2 c m p.2.2.2.1 p.1 (tr ++ p.2.1) ∧ StepQ c m s0 q p.2.2.2.2 p.2.2.2.1 ∧ unisF g p.1 (tsa.drop i) (tsb.drop i) = some (r, σ', p.2.2.1) ∧ p.2.1 ++ p.2.2.1 = add)
        (fun i _ => [(6, .bool false), (80, .int .i64 i)]) (fun _ p => p.2.2.2.2) (by decide +kernel)
        ⟨(σ, [], add, q, s0), ⟨hg, hsm, by rw [List.append_nil]; exact hS0, StepQ.refl _ _ _ _, h4, rfl⟩, zx7.mk (by simp -implicitDefEqProofs only [zy4, h54, h54.symm, List.length_map, h1, evE, ↓evZ2, ↓evZ3, ↓Int.cast_ofNat_Int, implies_true, zy2, aFn, List.contains, List.elem, zq3, zy1, zq2, sub, zx3, zw2, zw3, zy3, gd, zq1, zw0, zq0, zx0, zx2, zx1, zy0, zw1, List.range', ↓reduceIte, reduceCtorEq, Nat.reduceEqDiff, Nat.reduceAdd, Nat.reduceLeDiff, Nat.reduceMul, Nat.reduceLT, Nat.reduceBEq, Int.reduceEq, tf_S4_43])⟩ (fun i x p hx hlt hlt' hdr hinv => ?_) (fun p hge hinv => ?_)
      case refine_2 =>
        obtain ⟨σi, ai, rest, qi, si⟩ := p
        obtain ⟨i1, i2, i3, i4, i5, i6⟩ := hinv
        simp only at i1 i2 i3 i4 i5 i6
        rw [List.drop_length, hlen, List.drop_length] at i5
        simp only [unisF, Option.some.injEq, Prod.mk.injEq] at i5
        obtain ⟨rfl, rfl, rfl⟩ := i5
        rw [List.append_nil] at i6
        subst i6
        simp -implicitDefEqProofs only [hge, zy4, h54, h54.symm, List.length_map, h1, evE, ↓evZ2, ↓evZ3, ↓Int.cast_ofNat_Int, implies_true, zy2, aFn, List.contains, List.elem, zq3, zy1, zq2, sub, zx3, zw2, zw3, zy3, gd, zq1, zw0, zq0, zx0, zx2, zx1, zy0, zw1, List.range', ↓reduceIte, reduceCtorEq, Nat.reduceEqDiff, Nat.reduceAdd, Nat.reduceLeDiff, Nat.reduceMul, Nat.reduceLT, Nat.reduceBEq, Int.reduceEq, tf_S4_43]
        exact ⟨qi, i3, hQ0.trans hS0 i4⟩
      obtain ⟨σi, ai, rest, qi, si⟩ := p
      obtain ⟨i1, i2, i3, i4, i5, i6⟩ := hinv
      simp only at i1 i2 i3 i4 i5 i6
      obtain ⟨y, hy⟩ : ∃ y, tsb[i]? = some y := ⟨_, List.getElem?_eq_getElem (by omega)⟩
      have hdr' : tsb.drop i = y :: tsb.drop (i + 1) := by
        obtain ⟨h1, h2⟩ := List.getElem?_eq_some_iff.1 hy
        rw [List.drop_eq_getElem_cons h1, h2]
      rw [hdr, hdr', unisF] at i5
      have f4 := i4.frame b4 _ e4 h4c h4m (hl4 q rfl)
      have f5 := i4.frame b5 _ e5 h5c h5m hl5
      have hw := wrap64 (n := (i : Int) + 1) (by omega) (by omega)
      simp -implicitDefEqProofs only [hlt', zy4, h54, h54.symm, List.length_map, h1, f4, f5, ev_at (av := Tm.av) eI_23 hx (Tm.av_width x), ev_at (av := Tm.av) eI_23 hy (Tm.av_width y), evE, ↓evZ2, ↓evZ3, ↓Int.cast_ofNat_Int, implies_true, zy2, aFn, List.contains, List.elem, zq3, zy1, zq2, sub, zx3, zw2, zw3, zy3, gd, zq1, zw0, zq0, zx0, zx2, zx1, zy0, zw1, List.range', ↓reduceIte, reduceCtorEq, Nat.reduceEqDiff, Nat.reduceAdd, Nat.reduceLeDiff, Nat.reduceMul, Nat.reduceLT, Nat.reduceBEq, Int.reduceEq, tf_S4_43]
      refine zx5 [(0, 1), (1, 1), (3, 1), (6, 1), (8, 1), (2, 2), (4, 1), (5, 2), (7, 2), (9, 1), (10, 2), (11, 0), (12, 1)] [0, 1, 3, 6, 8, 2, 4, 5, 7, 9, 10, 12] mixed (by decide +kernel) (by decide +kernel) (by decide +kernel) ?_
      simp -implicitDefEqProofs only [zy4, h54, h54.symm, List.length_map, h1, f4, f5, ev_at (av := Tm.av) eI_23 hx (Tm.av_width x), ev_at (av := Tm.av) eI_23 hy (Tm.av_width y), evE, ↓evZ2, ↓evZ3, ↓Int.cast_ofNat_Int, implies_true, zy2, aFn, List.contains, List.elem, zq3, zy1, zq2, sub, zx3, zw2, zw3, zy3, gd, zq1, zw0, zq0, zx0, zx2, zx1, zy0, zw1, List.range', ↓reduceIte, reduceCtorEq, Nat.reduceEqDiff, Nat.reduceAdd, Nat.reduceLeDiff, Nat.reduceMul, Nat.reduceLT, Nat.reduceBEq, Int.reduceEq, tf_S4_43]
      cases hu : uniF g σi x y with
      | none => rw [hu] at i5; cases i5
      | some p1 =>
        obtain ⟨r1, σ1, tr1⟩ := p1
        rw [hu] at i5
        have hx1 : Sm x := hlas x (List.mem_of_getElem? hx)
        have hy1 : Sm y := hlbs y (List.mem_of_getElem? hy)
        have hU := uniF_uni i1 hu
        have hA := (uni_all sm_kids g).1 σi x y r1 σ1 tr1 i1 hu i2 hx1 hy1
        have hsub : tr1.length ≤ rest.length := by
          cases r1 with
          | false => simp only [Option.some.injEq, Prod.mk.injEq] at i5; rw [i5.2.2]; exact Nat.le_refl _
          | true =>
            simp only at i5
            cases hu2 : unisF g σ1 (tsa.drop (i + 1)) (tsb.drop (i + 1)) with
            | none => rw [hu2] at i5; cases i5
            | some p2 =>
              obtain ⟨r2, σ2, tr2⟩ := p2
              rw [hu2] at i5
              simp only [Option.some.injEq, Prod.mk.injEq] at i5
              rw [← i5.2.2, List.length_append]; omega
        have hadd : add.length = ai.length + rest.length := by rw [← i6, List.length_append]
        refine (IH σi x y r1 σ1 tr1 i1 i2 hx1 hy1 hu c m qi (tr ++ ai) si i3 (by rw [List.length_append]; omega)).mono ?_
        rintro _ s2 ⟨rfl, q2, hS2, hQ2⟩
        cases r1 with
        | false =>
          simp only [Option.some.injEq, Prod.mk.injEq] at i5
          obtain ⟨rfl, rfl, rfl⟩ := i5
          simp -implicitDefEqProofs only [zy4, h54, h54.symm, List.length_map, h1, f4, f5, ev_at (av := Tm.av) eI_23 hx (Tm.av_width x), ev_at (av := Tm.av) eI_23 hy (Tm.av_width y), evE, ↓evZ2, ↓evZ3, ↓Int.cast_ofNat_Int, implies_true, zy2, aFn, List.contains, List.elem, zq3, zy1, zq2, sub, zx3, zw2, zw3, zy3, gd, zq1, zw0, zq0, zx0, zx2, zx1, zy0, zw1, List.range', ↓reduceIte, reduceCtorEq, Nat.reduceEqDiff, Nat.reduceAdd, Nat.reduceLeDiff, Nat.reduceMul, Nat.reduceLT, Nat.reduceBEq, Int.reduceEq, tf_S4_43]
          rw [← i6, ← List.append_assoc]
          exact ⟨q2, hS2, hQ0.trans hS0 (i4.trans i3 hQ2)⟩
        | true =>
          simp only at i5
          cases hu2 : unisF g σ1 (tsa.drop (i + 1)) (tsb.drop (i + 1)) with
          | none => rw [hu2] at i5; cases i5
          | some p2 =>
            obtain ⟨r2, σ2, tr2⟩ := p2
            rw [hu2] at i5
            simp only [Option.some.injEq, Prod.mk.injEq] at i5
            obtain ⟨rfl, rfl, rfl⟩ := i5
            simp -implicitDefEqProofs only [zy4, h54, h54.symm, List.length_map, h1, f4, f5, ev_at (av := Tm.av) eI_23 hx (Tm.av_width x), ev_at (av := Tm.av) eI_23 hy (Tm.av_width y), evE, ↓evZ2, ↓evZ3, ↓Int.cast_ofNat_Int, implies_true, zy2, aFn, List.contains, List.elem, zq3, zy1, zq2, sub, zx3, zw2, zw3, zy3, gd, zq1, zw0, zq0, zx0, zx2, zx1, zy0, zw1, List.range', ↓reduceIte, reduceCtorEq, Nat.reduceEqDiff, Nat.reduceAdd, Nat.reduceLeDiff, Nat.reduceMul, Nat.reduceLT, Nat.reduceBEq, Int.reduceEq, tf_S4_43]
            exact ⟨(σ1, ai ++ tr1, tr2, q2, s2), ⟨hU.good, hA, by rw [← List.append_assoc]; exact hS2, i4.trans i3 hQ2, hu2, by rw [List.append_assoc]; exact i6⟩, zx7.mk (by simp -implicitDefEqProofs only [hw, zy4, h54, h54.symm, List.length_map, h1, f4, f5, ev_at (av := Tm.av) eI_23 hx (Tm.av_width x), ev_at (av := Tm.av) eI_23 hy (Tm.av_width y), evE, ↓evZ2, ↓evZ3, ↓Int.cast_ofNat_Int, implies_true, zy2, aFn, List.contains, List.elem, zq3, zy1, zq2, sub, zx3, zw2, zw3, zy3, gd, zq1, zw0, zq0, zx0, zx2, zx1, zy0, zw1, List.range', ↓reduceIte, reduceCtorEq, Nat.reduceEqDiff, Nat.reduceAdd, Nat.reduceLeDiff, Nat.reduceMul, Nat.reduceLT, Nat.reduceBEq, Int.reduceEq, tf_S4_43])⟩
    · have hd : ka = kb → na = nb → sa = sb' → ¬ (tsa.length : Int) = (tsb.length : Int) := by
        intro e1 e2 e3 e4
        have : headEq (Tm.mk ka na sa tsa) (Tm.mk kb nb sb' tsb) = true := headEq_iff.2 ⟨e1, e2, e3, by simp only [Tm.ts]; omega⟩
        rw [h3] at this; cases this
      by_cases e1 : ka = kb
      · by_cases e2 : na = nb
        · by_cases e3 : sa = sb'
          · have e4 := hd e1 e2 e3
            subst e1 e2 e3
            simp -implicitDefEqProofs only [decide_false, decide_true, zy4, h54, h54.symm, h1, List.length_map, e4, evE, ↓evZ2, ↓evZ3, ↓Int.cast_ofNat_Int, implies_true, zy2, aFn, List.contains, List.elem, zq3, zy1, zq2, sub, zx3, zw2, zw3, zy3, gd, zq1, zw0, zq0, zx0, zx2, zx1, zy0, zw1, List.range', ↓reduceIte, reduceCtorEq, Nat.reduceEqDiff, Nat.reduceAdd, Nat.reduceLeDiff, Nat.reduceMul, Nat.reduceLT, Nat.reduceBEq, Int.reduceEq, tf_S4_43]
            exact hfin _ _
          · subst e1 e2
            simp -implicitDefEqProofs only [decide_false, decide_true, zy4, h54, h54.symm, h1, List.length_map, e3, evE, ↓evZ2, ↓evZ3, ↓Int.cast_ofNat_Int, implies_true, zy2, aFn, List.contains, List.elem, zq3, zy1, zq2, sub, zx3, zw2, zw3, zy3, gd, zq1, zw0, zq0, zx0, zx2, zx1, zy0, zw1, List.range', ↓reduceIte, reduceCtorEq, Nat.reduceEqDiff, Nat.reduceAdd, Nat.reduceLeDiff, Nat.reduceMul, Nat.reduceLT, Nat.reduceBEq, Int.reduceEq, tf_S4_43]
            exact hfin _ _
        · subst e1
          simp -implicitDefEqProofs only [decide_false, decide_true, zy4, h54, h54.symm, h1, List.length_map, e2, evE, ↓evZ2, ↓evZ3, ↓Int.cast_ofNat_Int, implies_true, zy2, aFn, List.contains, List.elem, zq3, zy1, zq2, sub, zx3, zw2, zw3, zy3, gd, zq1, zw0, zq0, zx0, zx2, zx1, zy0, zw1, List.range', ↓reduceIte, reduceCtorEq, Nat.reduceEqDiff, Nat.reduceAdd, Nat.reduceLeDiff, Nat.reduceMul, Nat.reduceLT, Nat.reduceBEq, Int.reduceEq, tf_S4_43]
          exact hfin _ _
      · clear hd
        simp -implicitDefEqProofs only [decide_false, decide_true, zy4, h54, h54.symm, h1, h2, List.length_map, e1, evE, ↓evZ2, ↓evZ3, ↓Int.cast_ofNat_Int, implies_true, zy2, aFn, List.contains, List.elem, zq3, zy1, zq2, sub, zx3, zw2, zw3, zy3, gd, zq1, zw0, zq0, zx0, zx2, zx1, zy0, zw1, List.range', ↓reduceIte, reduceCtorEq, Nat.reduceEqDiff, Nat.reduceAdd, Nat.reduceLeDiff, Nat.reduceMul, Nat.reduceLT, Nat.reduceBEq, Int.reduceEq, tf_S4_43]
        exact hfin _ _
end Go.AW


namespace Go.AW
open Go.Proofs.Try
set_option linter.unusedSimpArgs false
set_option maxRecDepth 100000
theorem mapSet_out (σ : Sub) (l : List Int) (n : Int) : mapSet (mapOf (σ.out l)) n none = mapOf (σ.out (l ++ [n])) := by
  funext x
  unfold mapSet mapOf Sub.out
  by_cases h : x = n
  · simp [h]
  · simp only [h, if_false, List.mem_append, List.mem_singleton, or_false]
theorem delete_out {P : Program} {st : zy7} {m : Nat} {σ : Sub} {l : List Int} {t kt et : TypeId} {n : Int} {K : AV → zy7 → Prop} (hm : st m = some (.map (mapOf (σ.out l)))) (hu : P.underlying t = some (.map kt et)) (hk : P.underlying kt = some (.int .i64))
    (h : K (.tup []) (st.upd m (.map (mapOf (σ.out (l ++ [n])))))) : aDelete P t st (.map m) (.int .i64 n) K := by
  unfold aDelete
  simp only [hu, hm, hk]
  rw [mapSet_out]
  exact h
theorem Sub.out_nil (σ : Sub) : σ.out [] = σ := by funext n; simp [Sub.out]
theorem slice_lo {φ : AF} {d b n k : Nat} (h : φ d = .int .i64 (k : Int)) (hk : k = 0 ∨ k < n) : aSlice prog φ 61 (.mslice b 0 n 1) (some (.tmp d)) none none = some (.mslice b k (n - k) 1) := by
  have h1 : aBound φ none n n = some n := rfl
  have h2 : aBound φ (some (.tmp d)) 0 n = some k := by
    unfold aBound
    simp only [show φ.eval (.tmp d) = φ d from rfl, h]
    rw [if_pos (by omega)]
    simp
  unfold aSlice aSlice0
  rw [if_neg (by simp [isF0])]
  simp only [eI_61, h1, h2]
  by_cases h3 : k = 0
  · subst h3; simp
  · have h4 : k < n := by omega
    simp [h3, h4]
theorem slice_loE {φ : AF} {d b n : Nat} (h : φ d = .int .i64 (n : Int)) (hn : n ≠ 0) : aSlice prog φ 61 (.mslice b 0 n 1) (some (.tmp d)) none none = some .eslice := by
  have h1 : aBound φ none n n = some n := rfl
  have h2 : aBound φ (some (.tmp d)) 0 n = some n := by
    unfold aBound
    simp only [show φ.eval (.tmp d) = φ d from rfl, h]
    rw [if_pos (by omega)]
    simp
  unfold aSlice aSlice0
  rw [if_neg (by simp [isF0])]
  simp only [eI_61, h1, h2]
  simp [hn]
theorem slice_hiW {φ : AF} {t : TypeId} {ag : Bool} {w d b n k : Nat} (hI : eI prog t = some (ag, w)) (h : φ d = .int .i64 (k : Int)) (hk : k ≤ n) : aSlice prog φ t (.mslice b 0 n w) none (some (.tmp d)) none = some (.mslice b 0 k w) := by
  have h1 : aBound φ (some (.tmp d)) n n = some k := by
    unfold aBound
    simp only [show φ.eval (.tmp d) = φ d from rfl, h]
    rw [if_pos (by omega)]
    simp
  have h2 : aBound φ none 0 k = some 0 := rfl
  unfold aSlice aSlice0
  rw [if_neg (by simp [isF0])]
  simp only [hI, h1, h2]
  simp
theorem slice_hiF {φ : AF} {t : TypeId} {ag : Bool} {w d : Nat} (hI : eI prog t = some (ag, w)) (h : φ d = .int .i64 0) : aSlice prog φ t (.fslice []) none (some (.tmp d)) none = some (.fslice []) := by
  have h1 : aBound φ (some (.tmp d)) 0 0 = some 0 := by
    unfold aBound
    simp only [show φ.eval (.tmp d) = φ d from rfl, h]
    simp
  have h2 : aBound φ none 0 0 = some 0 := rfl
  unfold aSlice
  rw [if_pos ⟨rfl, rfl⟩]
  simp only [hI, h1, h2]
theorem slice_lo0 {φ : AF} {d : Nat} (h : φ d = .int .i64 0) : aSlice prog φ 61 (.fslice []) (some (.tmp d)) none none = some (.fslice []) := by
  have h1 : aBound φ none 0 0 = some 0 := rfl
  have h2 : aBound φ (some (.tmp d)) 0 0 = some 0 := by
    unfold aBound
    simp only [show φ.eval (.tmp d) = φ d from rfl, h]
    simp
  unfold aSlice
  rw [if_pos ⟨rfl, rfl⟩]
  simp only [eI_61, h1, h2]
theorem held_atO {P : Program} {t : TypeId} {ag : Bool} {b o len w i : Nat} (hI : eI P t = some (ag, w)) (hi : i < len) : aIndexAddr P t (.mslice b o len w) (.int .i64 (i : Int)) = some (.ptr b (o + i * w)) := by
  unfold aIndexAddr
  simp only [hI]
  rw [if_pos ⟨by omega, by omega, trivial⟩]
  simp
abbrev tf_B2_44 := And.intro tI_2 (And.intro zI_2 (And.intro underlying2 (And.intro tI_3 (And.intro zI_3 (And.intro underlying3 (And.intro tI_4 (And.intro zI_4 (And.intro underlying4 (And.intro tI_5 (And.intro zI_5 (And.intro underlying5 (And.intro tI_6 (And.intro zI_6 (And.intro underlying6 (And.intro tI_11 (And.intro zI_11 (And.intro underlying11 (And.intro tI_12 (And.intro zI_12 (And.intro underlying12 (And.intro tI_13 (And.intro zI_13 (And.intro fI_13_0 (And.intro fI_13_1 (And.intro bI_13 (And.intro tI_21 (And.intro zI_21 (And.intro underlying21 (And.intro tI_22 (And.intro zI_22 (And.intro eI_22 (And.intro eB_22 (And.intro eZ_22 (And.intro underlying22 (And.intro tI_34 (And.intro zI_34 (And.intro tI_39 (And.intro zI_39 (And.intro tI_61 (And.intro zI_61 (And.intro eI_61 (And.intro eB_61 (And.intro eZ_61 (And.intro underlying61 (And.intro tI_68 (And.intro zI_68 (And.intro underlying68 (And.intro tI_70 (And.intro zI_70 (And.intro fI_70_0 (And.intro fI_70_1 bI_70)))))))))))))))))))))))))))))))))))))))))))))))))))
theorem c_undoG (σ : Sub) (tr : List Int) (mark : Nat) (hm : mark ≤ tr.length) (c m : Nat) (q : AV) (st : zy7) (hS : Sto st c m q σ tr) (hl : tr.length ≤ 1099511627776) :
    zq7 prog 44 [.ptr c 0, .int .i64 (mark : Int)] st (fun r st' => r = .tup [] ∧ ∃ q', Sto st' c m q' (σ.out (tr.drop mark)) (tr.take mark) ∧ (∀ b ∈ tbk q', b ∈ tbk q) ∧ ∀ x o, st x = some o → x ≠ c → x ≠ m → st' x = some o) := by
  have hcm := hS.sub.cm
  rcases hS.trail with ⟨rfl, rfl⟩ | ⟨b, cs, rfl, hb, hcs⟩
  · obtain rfl : mark = 0 := by simpa using hm
    have e1 := hS.sub.cells
    have hsl := fun (φ : AF) (d : Nat) (h : φ d = .int .i64 0) => slice_lo0 h
    have hsh := fun (φ : AF) (d : Nat) (h : φ d = .int .i64 0) => slice_hiF eI_61 h
    simp only [Int.ofNat_zero, Int.natCast_zero]
    refine zw6 [1000000] func44 ntmps44 rfl rfl (by kernel_rfl) (by decide +kernel) (by show 2 ≤ _; decide +kernel) ?_
    intro _
    simp -implicitDefEqProofs only [zy4, e1, hsl, hsh, evE, ↓evZ2, ↓evZ3, ↓Int.cast_ofNat_Int, implies_true, zy2, aFn, List.contains, List.elem, zq3, zy1, zq2, sub, zx3, zw2, zw3, zy3, gd, zq1, zw0, zq0, zx0, zx2, zx1, zy0, zw1, List.range', ↓reduceIte, reduceCtorEq, Nat.reduceEqDiff, Nat.reduceAdd, Nat.reduceLeDiff, Nat.reduceMul, Nat.reduceLT, Nat.reduceBEq, Int.reduceEq, tf_B2_44]
    refine zy5 (σ := Unit) [1000000] [0, 1, 11, 12] ([] : List Int) (fun i _ => True) (fun i _ => [(13, .int .i64 i)]) (fun _ _ => st) (by decide +kernel) ⟨(), trivial, zx7.mk (by simp -implicitDefEqProofs only [zy4, e1, hsl, hsh, evE, ↓evZ2, ↓evZ3, ↓Int.cast_ofNat_Int, implies_true, zy2, aFn, List.contains, List.elem, zq3, zy1, zq2, sub, zx3, zw2, zw3, zy3, gd, zq1, zw0, zq0, zx0, zx2, zx1, zy0, zw1, List.range', ↓reduceIte, reduceCtorEq, Nat.reduceEqDiff, Nat.reduceAdd, Nat.reduceLeDiff, Nat.reduceMul, Nat.reduceLT, Nat.reduceBEq, Int.reduceEq, tf_B2_44])⟩ (fun i x _ hx hlt hlt' hdr hinv => ?_) (fun _ hge hinv => ?_)
    · simp at hlt
    · simp -implicitDefEqProofs only [List.length_nil, show decide ((0 : Int) < 0) = false from rfl, zy4, e1, hsl, hsh, evE, ↓evZ2, ↓evZ3, ↓Int.cast_ofNat_Int, implies_true, zy2, aFn, List.contains, List.elem, zq3, zy1, zq2, sub, zx3, zw2, zw3, zy3, gd, zq1, zw0, zq0, zx0, zx2, zx1, zy0, zw1, List.range', ↓reduceIte, reduceCtorEq, Nat.reduceEqDiff, Nat.reduceAdd, Nat.reduceLeDiff, Nat.reduceMul, Nat.reduceLT, Nat.reduceBEq, Int.reduceEq, tf_B2_44]
      rw [Sub.out_nil]
      refine ⟨.fslice [], ⟨⟨zy7.upd_same _ _ _, ?_⟩, .inl ⟨rfl, rfl⟩, by simp [tbk]⟩, fun _ h => h, fun x o h h1 h2 => by rw [zy7.upd_ne _ _ h1]; exact h⟩
      rw [zy7.upd_ne _ _ hcm.symm, hS.sub.map]
  · have e1 := hS.sub.cells
    have hbc : b ≠ c := fun e => hS.apart (by simp [tbk, e])
    have hbm : b ≠ m := fun e => hS.m_apart (by simp [tbk, e])
    have hc' : ∀ o, (st.upd m o) c = some (.cells [.map m, .mslice b 0 tr.length 1]) := fun o => by rw [zy7.upd_ne _ _ hcm]; exact e1
    have hb' : ∀ o, (st.upd m o) b = some (.cells cs) := fun o => by rw [zy7.upd_ne _ _ hbm]; exact hb
    have hm0 : st.upd m (.map (mapOf σ)) = st := by
      funext x
      unfold zy7.upd
      split
      · rename_i h; rw [h, hS.sub.map]
      · rfl
    have hfin : ∀ st', st' = (st.upd m (.map (mapOf (σ.out (tr.drop mark))))).upd c (.cells [.map m, .mslice b 0 mark 1]) → ∃ q', Sto st' c m q' (σ.out (tr.drop mark)) (tr.take mark) ∧ (∀ x ∈ tbk q', x ∈ tbk (.mslice b 0 tr.length 1)) ∧ ∀ x o, st x = some o → x ≠ c → x ≠ m → st' x = some o := by
      rintro _ rfl
      have hlt : (tr.take mark).length = mark := by rw [List.length_take]; omega
      refine ⟨.mslice b 0 mark 1, ⟨⟨zy7.upd_same _ _ _, by rw [zy7.upd_ne _ _ hcm.symm, zy7.upd_same]⟩, .inr ⟨b, cs, by rw [hlt], by rw [zy7.upd_ne _ _ hbc]; exact hb' _, ?_⟩, by simpa [tbk] using Ne.symm hbc⟩, fun x h => h, fun x o h h1 h2 => by rw [zy7.upd_ne _ _ h1, zy7.upd_ne _ _ h2]; exact h⟩
      rw [hlt, List.map_take, ← hcs, List.take_take, Nat.min_eq_left hm]
    have hsh := fun (φ : AF) (d : Nat) (h : φ d = .int .i64 (mark : Int)) => slice_hiW (b := b) eI_61 h hm
    by_cases hk : mark = 0 ∨ mark < tr.length
    · have hsl := fun (φ : AF) (d : Nat) (h : φ d = .int .i64 (mark : Int)) => slice_lo (b := b) h hk
      refine zw6 [1000000] func44 ntmps44 rfl rfl (by kernel_rfl) (by decide +kernel) (by show 2 ≤ _; decide +kernel) ?_
      intro _
      simp -implicitDefEqProofs only [zy4, e1, hsl, hsh, evE, ↓evZ2, ↓evZ3, ↓Int.cast_ofNat_Int, implies_true, zy2, aFn, List.contains, List.elem, zq3, zy1, zq2, sub, zx3, zw2, zw3, zy3, gd, zq1, zw0, zq0, zx0, zx2, zx1, zy0, zw1, List.range', ↓reduceIte, reduceCtorEq, Nat.reduceEqDiff, Nat.reduceAdd, Nat.reduceLeDiff, Nat.reduceMul, Nat.reduceLT, Nat.reduceBEq, Int.reduceEq, tf_B2_44]
      refine zy5 (σ := Unit) [1000000] [0, 1, 11, 12] (tr.drop mark) (fun i _ => True) (fun i _ => [(13, .int .i64 i)]) (fun i _ => st.upd m (.map (mapOf (σ.out ((tr.drop mark).take i))))) (by decide +kernel) ⟨(), trivial, by rw [List.take_zero, Sub.out_nil, hm0]; exact zx7.mk (by simp -implicitDefEqProofs only [zy4, e1, hsl, hsh, evE, ↓evZ2, ↓evZ3, ↓Int.cast_ofNat_Int, implies_true, zy2, aFn, List.contains, List.elem, zq3, zy1, zq2, sub, zx3, zw2, zw3, zy3, gd, zq1, zw0, zq0, zx0, zx2, zx1, zy0, zw1, List.range', ↓reduceIte, reduceCtorEq, Nat.reduceEqDiff, Nat.reduceAdd, Nat.reduceLeDiff, Nat.reduceMul, Nat.reduceLT, Nat.reduceBEq, Int.reduceEq, tf_B2_44])⟩ (fun i x _ hx hlt hlt' hdr hinv => ?_) (fun _ hge hinv => ?_)
      · have hw := wrap64 (n := (i : Int) + 1) (by omega) (by rw [List.length_drop] at hlt; omega)
        have htk : (tr.drop mark).take (i + 1) = (tr.drop mark).take i ++ [x] := by rw [List.take_add_one, hx]; simp
        rw [List.length_drop] at hlt hlt'
        have hlt'' : decide ((i : Int) < ((tr.length - mark : Nat) : Int)) = true := by simp; omega
        have hxt : tr[mark + i]? = some x := by rw [List.getElem?_drop] at hx; exact hx
        have hcs2 : cs = (tr.take (mark + i)).map iv ++ [iv x] ++ ((tr.drop (mark + i + 1)).map iv ++ cs.drop tr.length) := by
          have h1 : cs = tr.map iv ++ cs.drop tr.length := by rw [← hcs]; exact (List.take_append_drop _ _).symm
          have h2 : tr.map iv = (tr.take (mark + i)).map iv ++ iv x :: (tr.drop (mark + i + 1)).map iv := by
            have h3 : tr.drop (mark + i) = x :: tr.drop (mark + i + 1) := by
              obtain ⟨g1, g2⟩ := List.getElem?_eq_some_iff.1 hxt
              rw [List.drop_eq_getElem_cons g1, g2]
            rw [← List.map_cons (f := iv), ← h3, ← List.map_append, List.take_append_drop]
          rw [h2] at h1
          exact h1.trans (by simp)
        have hA : ((tr.take (mark + i)).map iv).length = mark + i := by simp only [List.length_map, List.length_take]; omega
        have hat := held_atO (P := prog) (b := b) (o := mark) (len := tr.length - mark) (w := 1) (i := i) eI_61 hlt
        have hcb := hb' (.map (mapOf (σ.out ((tr.drop mark).take i))))
        rw [hcs2] at hcb
        have hcm2 := hc' (.map (mapOf (σ.out ((tr.drop mark).take i))))
        obtain ⟨e1', e2, e3, e4, e5, e6⟩ := midE (B := (tr.drop (mark + i + 1)).map iv ++ cs.drop tr.length) hA
        simp -implicitDefEqProofs only [e1', e2, e3, e4, e5, e6, hat, hcb, hcm2, hlt', hlt'', Nat.mul_one, hw, evE, ↓evZ2, ↓evZ3, ↓Int.cast_ofNat_Int, implies_true, zy2, aFn, List.contains, List.elem, zq3, zy1, zq2, sub, zx3, zw2, zw3, zy3, gd, zq1, zw0, zq0, zx0, zx2, zx1, zy0, zw1, List.range', ↓reduceIte, reduceCtorEq, Nat.reduceEqDiff, Nat.reduceAdd, Nat.reduceLeDiff, Nat.reduceMul, Nat.reduceLT, Nat.reduceBEq, Int.reduceEq, tf_B2_44]
        refine delete_out (zy7.upd_same _ _ _) underlying68 underlying3 ?_
        rw [zy7.upd_upd, ← htk]
        simp -implicitDefEqProofs only [hat, hcb, hcm2, hlt', hlt'', Nat.mul_one, hw, evE, ↓evZ2, ↓evZ3, ↓Int.cast_ofNat_Int, implies_true, zy2, aFn, List.contains, List.elem, zq3, zy1, zq2, sub, zx3, zw2, zw3, zy3, gd, zq1, zw0, zq0, zx0, zx2, zx1, zy0, zw1, List.range', ↓reduceIte, reduceCtorEq, Nat.reduceEqDiff, Nat.reduceAdd, Nat.reduceLeDiff, Nat.reduceMul, Nat.reduceLT, Nat.reduceBEq, Int.reduceEq, tf_B2_44]
        exact ⟨(), zx7.mk (by simp -implicitDefEqProofs only [hat, hcb, hcm2, hlt', hlt'', Nat.mul_one, hw, evE, ↓evZ2, ↓evZ3, ↓Int.cast_ofNat_Int, implies_true, zy2, aFn, List.contains, List.elem, zq3, zy1, zq2, sub, zx3, zw2, zw3, zy3, gd, zq1, zw0, zq0, zx0, zx2, zx1, zy0, zw1, List.range', ↓reduceIte, reduceCtorEq, Nat.reduceEqDiff, Nat.reduceAdd, Nat.reduceLeDiff, Nat.reduceMul, Nat.reduceLT, Nat.reduceBEq, Int.reduceEq, tf_B2_44])⟩
      · rw [List.take_length]
        rw [List.length_drop] at hge
        have hcm2 := hc' (.map (mapOf (σ.out (tr.drop mark))))
        have hge' : decide (((tr.length - mark : Nat) : Int) < ((tr.length - mark : Nat) : Int)) = false := by simp
        simp -implicitDefEqProofs only [hcm2, hge, hge', List.length_drop, zy4, hsh, evE, ↓evZ2, ↓evZ3, ↓Int.cast_ofNat_Int, implies_true, zy2, aFn, List.contains, List.elem, zq3, zy1, zq2, sub, zx3, zw2, zw3, zy3, gd, zq1, zw0, zq0, zx0, zx2, zx1, zy0, zw1, List.range', ↓reduceIte, reduceCtorEq, Nat.reduceEqDiff, Nat.reduceAdd, Nat.reduceLeDiff, Nat.reduceMul, Nat.reduceLT, Nat.reduceBEq, Int.reduceEq, tf_B2_44]
        exact hfin _ rfl
    · obtain rfl : mark = tr.length := by omega
      have hn0 : tr.length ≠ 0 := by omega
      have hsl := fun (φ : AF) (d : Nat) (h : φ d = .int .i64 (tr.length : Int)) => slice_loE (b := b) h hn0
      refine zw6 [1000000] func44 ntmps44 rfl rfl (by kernel_rfl) (by decide +kernel) (by show 2 ≤ _; decide +kernel) ?_
      intro _
      simp -implicitDefEqProofs only [zy4, e1, hsl, hsh, aLen, underlying61, evE, ↓evZ2, ↓evZ3, ↓Int.cast_ofNat_Int, implies_true, zy2, aFn, List.contains, List.elem, zq3, zy1, zq2, sub, zx3, zw2, zw3, zy3, gd, zq1, zw0, zq0, zx0, zx2, zx1, zy0, zw1, List.range', ↓reduceIte, reduceCtorEq, Nat.reduceEqDiff, Nat.reduceAdd, Nat.reduceLeDiff, Nat.reduceMul, Nat.reduceLT, Nat.reduceBEq, Int.reduceEq, tf_B2_44]
      refine zy5 (σ := Unit) [1000000] [0, 1, 11, 12] ([] : List Int) (fun i _ => True) (fun i _ => [(13, .int .i64 i)]) (fun _ _ => st) (by decide +kernel) ⟨(), trivial, zx7.mk (by simp -implicitDefEqProofs only [zy4, e1, hsl, hsh, aLen, underlying61, evE, ↓evZ2, ↓evZ3, ↓Int.cast_ofNat_Int, implies_true, zy2, aFn, List.contains, List.elem, zq3, zy1, zq2, sub, zx3, zw2, zw3, zy3, gd, zq1, zw0, zq0, zx0, zx2, zx1, zy0, zw1, List.range', ↓reduceIte, reduceCtorEq, Nat.reduceEqDiff, Nat.reduceAdd, Nat.reduceLeDiff, Nat.reduceMul, Nat.reduceLT, Nat.reduceBEq, Int.reduceEq, tf_B2_44])⟩ (fun i x _ hx hlt hlt' hdr hinv => ?_) (fun _ hge hinv => ?_)
      · simp at hlt
      · simp -implicitDefEqProofs only [List.length_nil, show decide ((0 : Int) < 0) = false from rfl, show decide (((0 : Nat) : Int) < ((0 : Nat) : Int)) = false from rfl, zy4, e1, hsl, hsh, aLen, underlying61, evE, ↓evZ2, ↓evZ3, ↓Int.cast_ofNat_Int, implies_true, zy2, aFn, List.contains, List.elem, zq3, zy1, zq2, sub, zx3, zw2, zw3, zy3, gd, zq1, zw0, zq0, zx0, zx2, zx1, zy0, zw1, List.range', ↓reduceIte, reduceCtorEq, Nat.reduceEqDiff, Nat.reduceAdd, Nat.reduceLeDiff, Nat.reduceMul, Nat.reduceLT, Nat.reduceBEq, Int.reduceEq, tf_B2_44]
        refine hfin _ ?_
        rw [List.drop_length, Sub.out_nil, hm0]
theorem c_undo (σ : Sub) (tr : List Int) (hz : σ.out tr = Sub.none) (c m : Nat) (q : AV) (st : zy7) (hS : Sto st c m q σ tr) (hl : tr.length ≤ 1099511627776) :
    zq7 prog 44 [.ptr c 0, .int .i64 0] st (fun r st' => r = .tup [] ∧ ∃ q', SubAt st' c m q' Sub.none ∧ ∀ x o, st x = some o → x ≠ c → x ≠ m → st' x = some o) := by
  refine (c_undoG σ tr 0 (Nat.zero_le _) c m q st hS hl).mono ?_
  rintro _ s2 ⟨rfl, q', h1, _, h3⟩
  rw [List.drop_zero, hz] at h1
  exact ⟨rfl, q', h1.sub, h3⟩
end Go.AW
