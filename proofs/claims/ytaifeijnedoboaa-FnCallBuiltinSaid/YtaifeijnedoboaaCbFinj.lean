import Derived.Test.YtaifeijnedoboaaCbFini

namespace Go.AW
open Go.Proofs.Try
set_option linter.unusedSimpArgs false
set_option maxRecDepth 100000
abbrev tf_Gs5_71 := And.intro tI_2 (And.intro zI_2 (And.intro underlying2 (And.intro tI_3 (And.intro zI_3 (And.intro underlying3 (And.intro tI_4 (And.intro zI_4 (And.intro underlying4 (And.intro tI_5 (And.intro zI_5 (And.intro underlying5 (And.intro tI_6 (And.intro zI_6 (And.intro underlying6 (And.intro tI_7 (And.intro zI_7 (And.intro fI_7_0 (And.intro fI_7_1 (And.intro fI_7_2 (And.intro fI_7_3 (And.intro bI_7 (And.intro tI_8 (And.intro zI_8 (And.intro fI_8_0 (And.intro fI_8_1 (And.intro fI_8_2 (And.intro fI_8_3 (And.intro bI_8 (And.intro tI_9 (And.intro zI_9 (And.intro underlying9 (And.intro tI_13 (And.intro zI_13 (And.intro fI_13_0 (And.intro fI_13_1 (And.intro bI_13 (And.intro tI_22 (And.intro zI_22 (And.intro eI_22 (And.intro eB_22 (And.intro eZ_22 (And.intro underlying22 (And.intro tI_23 (And.intro zI_23 (And.intro eI_23 (And.intro eB_23 (And.intro eZ_23 (And.intro underlying23 (And.intro tI_25 (And.intro zI_25 (And.intro fI_25_0 (And.intro fI_25_1 (And.intro fI_25_2 (And.intro fI_25_3 (And.intro bI_25 (And.intro tI_39 (And.intro zI_39 (And.intro tI_63 (And.intro zI_63 (And.intro eI_63 (And.intro eB_63 (And.intro eZ_63 underlying63))))))))))))))))))))))))))))))))))))))))))))))))))))))))))))))
theorem c_l1Own (k n : Int) (s : ByteArray) (ts : List Tm) (st : zy7) : zq7 prog 71 [(Tm.mk k n s ts).av] st (fun r st' => r = .bool (ownOk k n s ts.length) ∧ st' = st) := by
  refine zw6 [] func71 ntmps71 rfl rfl (by kernel_rfl) (by decide +kernel) (by show 1 ≤ _; decide +kernel) ?_
  intro _
  simp only [Tm.av_mk]
  have hl : (ts.map Tm.av).length = ts.length := List.length_map _
  repeat' (first
    | (simp -implicitDefEqProofs only [*, evE, ↓evZ2, ↓evZ3, ↓Int.cast_ofNat_Int, implies_true, zy2, aFn, List.contains, List.elem, zq3, zy1, zq2, sub, zx3, zw2, zw3, zy3, gd, zq1, zw0, zq0, zx0, zx2, zx1, zy0, zw1, List.range', ↓reduceIte, reduceCtorEq, Nat.reduceEqDiff, Nat.reduceAdd, Nat.reduceLeDiff, Nat.reduceMul, Nat.reduceLT, Nat.reduceBEq, Int.reduceEq, tf_Gs5_71])
    | (refine zx4 (fun h => ?_) (fun h => ?_))
    | (refine (c_spec_NameValid s st).to ?_)
    | (refine zq4 (fun h => ?_) (fun h => ?_)))
  all_goals simp only [ownOk, *, cond_true, cond_false, Bool.not_true, Bool.not_false, Bool.true_and, Bool.false_and, Bool.and_false, Bool.and_true]
abbrev tf_Gs5_50 := And.intro tI_2 (And.intro zI_2 (And.intro underlying2 (And.intro tI_3 (And.intro zI_3 (And.intro underlying3 (And.intro tI_4 (And.intro zI_4 (And.intro underlying4 (And.intro tI_5 (And.intro zI_5 (And.intro underlying5 (And.intro tI_6 (And.intro zI_6 (And.intro underlying6 (And.intro tI_7 (And.intro zI_7 (And.intro fI_7_0 (And.intro fI_7_1 (And.intro fI_7_2 (And.intro fI_7_3 (And.intro bI_7 (And.intro tI_8 (And.intro zI_8 (And.intro fI_8_0 (And.intro fI_8_1 (And.intro fI_8_2 (And.intro fI_8_3 (And.intro bI_8 (And.intro tI_9 (And.intro zI_9 (And.intro underlying9 (And.intro tI_10 (And.intro zI_10 (And.intro underlying10 (And.intro tI_13 (And.intro zI_13 (And.intro fI_13_0 (And.intro fI_13_1 (And.intro bI_13 (And.intro tI_15 (And.intro zI_15 (And.intro tI_16 (And.intro zI_16 (And.intro tI_23 (And.intro zI_23 (And.intro eI_23 (And.intro eB_23 (And.intro eZ_23 (And.intro underlying23 (And.intro tI_24 (And.intro zI_24 (And.intro fI_24_0 (And.intro fI_24_1 (And.intro fI_24_2 (And.intro fI_24_3 (And.intro bI_24 (And.intro tI_25 (And.intro zI_25 (And.intro fI_25_0 (And.intro fI_25_1 (And.intro fI_25_2 (And.intro fI_25_3 (And.intro bI_25 (And.intro tI_27 (And.intro zI_27 (And.intro eI_27 (And.intro eB_27 (And.intro eZ_27 (And.intro underlying27 (And.intro tI_48 (And.intro zI_48 (And.intro fI_48_0 (And.intro fI_48_1 bI_48)))))))))))))))))))))))))))))))))))))))))))))))))))))))))))))))))))))))))
theorem c_l1Shape : ∀ (t : Tm) (d : Int) (st : zy7), d ≤ 30 → -1 ≤ d → zq7 prog 50 [t.av, .int .i64 d] st (fun r st' => r = .bool (t.shape d) ∧ st' = st)
  | .mk k n s ts, d, st, hd, hd0 => by
    have hc := fun (x : Tm) (hx : x ∈ ts) d st h h0 => c_l1Shape x d st h h0
    have h1 := c_l1Own k n s ts st
    rw [Tm.av_mk] at h1
    refine zw6 [] func50 ntmps50 rfl rfl (by kernel_rfl) (by decide +kernel) (by show 2 ≤ _; decide +kernel) ?_
    simp only [Tm.av_mk, fitsL, AV.fits, and_true, List.length_map, Tm.shape_mk]
    intro ⟨_, _, _, hl, _⟩
    generalize ownOk k n s ts.length = z at *
    simp -implicitDefEqProofs only [evE, ↓evZ2, ↓evZ3, ↓Int.cast_ofNat_Int, implies_true, zy2, aFn, List.contains, List.elem, zq3, zy1, zq2, sub, zx3, zw2, zw3, zy3, gd, zq1, zw0, zq0, zx0, zx2, zx1, zy0, zw1, List.range', ↓reduceIte, reduceCtorEq, Nat.reduceEqDiff, Nat.reduceAdd, Nat.reduceLeDiff, Nat.reduceMul, Nat.reduceLT, Nat.reduceBEq, Int.reduceEq, tf_Gs5_50]
    refine zx4 (fun h => ?_) (fun h => ?_)
    case refine_2 =>
      simp -implicitDefEqProofs only [h, evE, ↓evZ2, ↓evZ3, ↓Int.cast_ofNat_Int, implies_true, zy2, aFn, List.contains, List.elem, zq3, zy1, zq2, sub, zx3, zw2, zw3, zy3, gd, zq1, zw0, zq0, zx0, zx2, zx1, zy0, zw1, List.range', ↓reduceIte, reduceCtorEq, Nat.reduceEqDiff, Nat.reduceAdd, Nat.reduceLeDiff, Nat.reduceMul, Nat.reduceLT, Nat.reduceBEq, Int.reduceEq, tf_Gs5_50]
      simp only [Bool.not_false, decide_eq_true_eq] at h
      simp; omega
    simp -implicitDefEqProofs only [h, evE, ↓evZ2, ↓evZ3, ↓Int.cast_ofNat_Int, implies_true, zy2, aFn, List.contains, List.elem, zq3, zy1, zq2, sub, zx3, zw2, zw3, zy3, gd, zq1, zw0, zq0, zx0, zx2, zx1, zy0, zw1, List.range', ↓reduceIte, reduceCtorEq, Nat.reduceEqDiff, Nat.reduceAdd, Nat.reduceLeDiff, Nat.reduceMul, Nat.reduceLT, Nat.reduceBEq, Int.reduceEq, tf_Gs5_50]
    refine h1.to ?_
    simp -implicitDefEqProofs only [h, evE, ↓evZ2, ↓evZ3, ↓Int.cast_ofNat_Int, implies_true, zy2, aFn, List.contains, List.elem, zq3, zy1, zq2, sub, zx3, zw2, zw3, zy3, gd, zq1, zw0, zq0, zx0, zx2, zx1, zy0, zw1, List.range', ↓reduceIte, reduceCtorEq, Nat.reduceEqDiff, Nat.reduceAdd, Nat.reduceLeDiff, Nat.reduceMul, Nat.reduceLT, Nat.reduceBEq, Int.reduceEq, tf_Gs5_50]
    refine ⟨fun h2 => ?_, fun h2 => ?_⟩
    · simp -implicitDefEqProofs only [evE, ↓evZ2, ↓evZ3, ↓Int.cast_ofNat_Int, implies_true, zy2, aFn, List.contains, List.elem, zq3, zy1, zq2, sub, zx3, zw2, zw3, zy3, gd, zq1, zw0, zq0, zx0, zx2, zx1, zy0, zw1, List.range', ↓reduceIte, reduceCtorEq, Nat.reduceEqDiff, Nat.reduceAdd, Nat.reduceLeDiff, Nat.reduceMul, Nat.reduceLT, Nat.reduceBEq, Int.reduceEq, tf_Gs5_50]
      simp only [Bool.not_eq_true'] at h2
      simp [h2]
    simp only [Bool.not_eq_false', decide_eq_false_iff_not] at h2 h
    subst h2
    have hw := wrap64 (n := d - 1) (by omega) (by omega)
    rw [show decide (1 ≤ d) = true by simp; omega]
    simp -implicitDefEqProofs only [evE, ↓evZ2, ↓evZ3, ↓Int.cast_ofNat_Int, implies_true, zy2, aFn, List.contains, List.elem, zq3, zy1, zq2, sub, zx3, zw2, zw3, zy3, gd, zq1, zw0, zq0, zx0, zx2, zx1, zy0, zw1, List.range', ↓reduceIte, reduceCtorEq, Nat.reduceEqDiff, Nat.reduceAdd, Nat.reduceLeDiff, Nat.reduceMul, Nat.reduceLT, Nat.reduceBEq, Int.reduceEq, tf_Gs5_50]
    refine zy6 (α := Nat) [] (fun i => i ≤ ts.length ∧ ∀ (j : Nat) x, j < i → ts[j]? = some x → x.shape (d - 1) = true)
      (fun i => [(1, .int .i64 d), (2, .pptr (.agg [.int .i64 k, .int .i64 n, .str s, .slice (ts.map Tm.av)])), (5, .int .i64 i)]) (fun _ => st) (fun i => ts.length - i) (by decide +kernel)
      ⟨0, ⟨by omega, by intro j x h; omega⟩, zx7.mk (by simp -implicitDefEqProofs only [evE, ↓evZ2, ↓evZ3, ↓Int.cast_ofNat_Int, implies_true, zy2, aFn, List.contains, List.elem, zq3, zy1, zq2, sub, zx3, zw2, zw3, zy3, gd, zq1, zw0, zq0, zx0, zx2, zx1, zy0, zw1, List.range', ↓reduceIte, reduceCtorEq, Nat.reduceEqDiff, Nat.reduceAdd, Nat.reduceLeDiff, Nat.reduceMul, Nat.reduceLT, Nat.reduceBEq, Int.reduceEq, tf_Gs5_50])⟩ ?_
    intro i ⟨hi, hall⟩
    simp -implicitDefEqProofs only [List.length_map, evE, ↓evZ2, ↓evZ3, ↓Int.cast_ofNat_Int, implies_true, zy2, aFn, List.contains, List.elem, zq3, zy1, zq2, sub, zx3, zw2, zw3, zy3, gd, zq1, zw0, zq0, zx0, zx2, zx1, zy0, zw1, List.range', ↓reduceIte, reduceCtorEq, Nat.reduceEqDiff, Nat.reduceAdd, Nat.reduceLeDiff, Nat.reduceMul, Nat.reduceLT, Nat.reduceBEq, Int.reduceEq, tf_Gs5_50]
    refine ⟨fun h5 => ?_, fun h5 => ?_⟩
    case refine_2 =>
      simp -implicitDefEqProofs only [evE, ↓evZ2, ↓evZ3, ↓Int.cast_ofNat_Int, implies_true, zy2, aFn, List.contains, List.elem, zq3, zy1, zq2, sub, zx3, zw2, zw3, zy3, gd, zq1, zw0, zq0, zx0, zx2, zx1, zy0, zw1, List.range', ↓reduceIte, reduceCtorEq, Nat.reduceEqDiff, Nat.reduceAdd, Nat.reduceLeDiff, Nat.reduceMul, Nat.reduceLT, Nat.reduceBEq, Int.reduceEq, tf_Gs5_50]
      simp only [decide_eq_false_iff_not, Int.ofNat_lt] at h5
      rw [all_of fun j x hx => hall j x (by have := (List.getElem?_eq_some_iff.1 hx).1; omega) hx]
    simp only [decide_eq_true_eq, Int.ofNat_lt] at h5
    obtain ⟨x, hx⟩ : ∃ x, ts[i]? = some x := ⟨_, List.getElem?_eq_getElem h5⟩
    simp -implicitDefEqProofs only [ev_at (av := Tm.av) eI_23 hx (Tm.av_width x), Tm.av_agg, Tm.av_width, hw, evE, ↓evZ2, ↓evZ3, ↓Int.cast_ofNat_Int, implies_true, zy2, aFn, List.contains, List.elem, zq3, zy1, zq2, sub, zx3, zw2, zw3, zy3, gd, zq1, zw0, zq0, zx0, zx2, zx1, zy0, zw1, List.range', ↓reduceIte, reduceCtorEq, Nat.reduceEqDiff, Nat.reduceAdd, Nat.reduceLeDiff, Nat.reduceMul, Nat.reduceLT, Nat.reduceBEq, Int.reduceEq, tf_Gs5_50]
    refine (hc x (List.mem_of_getElem? hx) (d - 1) st (by omega) (by omega)).to ?_
    simp -implicitDefEqProofs only [evE, ↓evZ2, ↓evZ3, ↓Int.cast_ofNat_Int, implies_true, zy2, aFn, List.contains, List.elem, zq3, zy1, zq2, sub, zx3, zw2, zw3, zy3, gd, zq1, zw0, zq0, zx0, zx2, zx1, zy0, zw1, List.range', ↓reduceIte, reduceCtorEq, Nat.reduceEqDiff, Nat.reduceAdd, Nat.reduceLeDiff, Nat.reduceMul, Nat.reduceLT, Nat.reduceBEq, Int.reduceEq, tf_Gs5_50]
    refine ⟨fun h6 => ?_, fun h6 => ?_⟩
    · simp -implicitDefEqProofs only [evE, ↓evZ2, ↓evZ3, ↓Int.cast_ofNat_Int, implies_true, zy2, aFn, List.contains, List.elem, zq3, zy1, zq2, sub, zx3, zw2, zw3, zy3, gd, zq1, zw0, zq0, zx0, zx2, zx1, zy0, zw1, List.range', ↓reduceIte, reduceCtorEq, Nat.reduceEqDiff, Nat.reduceAdd, Nat.reduceLeDiff, Nat.reduceMul, Nat.reduceLT, Nat.reduceBEq, Int.reduceEq, tf_Gs5_50]
      simp only [Bool.not_eq_true'] at h6
      rw [all_at hx h6]
    simp only [Bool.not_eq_false'] at h6
    simp -implicitDefEqProofs only [evE, ↓evZ2, ↓evZ3, ↓Int.cast_ofNat_Int, implies_true, zy2, aFn, List.contains, List.elem, zq3, zy1, zq2, sub, zx3, zw2, zw3, zy3, gd, zq1, zw0, zq0, zx0, zx2, zx1, zy0, zw1, List.range', ↓reduceIte, reduceCtorEq, Nat.reduceEqDiff, Nat.reduceAdd, Nat.reduceLeDiff, Nat.reduceMul, Nat.reduceLT, Nat.reduceBEq, Int.reduceEq, tf_Gs5_50]
    refine ⟨i + 1, by omega, ⟨by omega, fun j u hj hu => ?_⟩, zx7.mk ?_⟩
    · rcases Nat.lt_or_ge j i with h8 | h8
      · exact hall j u h8 hu
      · obtain rfl : j = i := by omega
        rw [hx] at hu; cases hu; exact h6
    · have := wrap64 (n := (i : Int) + 1) (by omega) (by omega)
      simp -implicitDefEqProofs only [this, evE, ↓evZ2, ↓evZ3, ↓Int.cast_ofNat_Int, implies_true, zy2, aFn, List.contains, List.elem, zq3, zy1, zq2, sub, zx3, zw2, zw3, zy3, gd, zq1, zw0, zq0, zx0, zx2, zx1, zy0, zw1, List.range', ↓reduceIte, reduceCtorEq, Nat.reduceEqDiff, Nat.reduceAdd, Nat.reduceLeDiff, Nat.reduceMul, Nat.reduceLT, Nat.reduceBEq, Int.reduceEq, tf_Gs5_50]
termination_by t => SizeOf.sizeOf t
decreasing_by have := List.sizeOf_lt_of_mem hx; simp only [Tm.mk.sizeOf_spec]; omega
abbrev tf_Gs5_51 := And.intro tI_2 (And.intro zI_2 (And.intro underlying2 (And.intro tI_3 (And.intro zI_3 (And.intro underlying3 (And.intro tI_4 (And.intro zI_4 (And.intro underlying4 (And.intro tI_5 (And.intro zI_5 (And.intro underlying5 (And.intro tI_6 (And.intro zI_6 (And.intro underlying6 (And.intro tI_7 (And.intro zI_7 (And.intro fI_7_0 (And.intro fI_7_1 (And.intro fI_7_2 (And.intro fI_7_3 (And.intro bI_7 (And.intro tI_9 (And.intro zI_9 (And.intro underlying9 (And.intro tI_10 (And.intro zI_10 (And.intro underlying10 (And.intro tI_23 (And.intro zI_23 (And.intro eI_23 (And.intro eB_23 (And.intro eZ_23 (And.intro underlying23 (And.intro tI_24 (And.intro zI_24 (And.intro fI_24_0 (And.intro fI_24_1 (And.intro fI_24_2 (And.intro fI_24_3 (And.intro bI_24 (And.intro tI_25 (And.intro zI_25 (And.intro fI_25_0 (And.intro fI_25_1 (And.intro fI_25_2 (And.intro fI_25_3 (And.intro bI_25 (And.intro tI_27 (And.intro zI_27 (And.intro eI_27 (And.intro eB_27 (And.intro eZ_27 (And.intro underlying27 (And.intro tI_63 (And.intro zI_63 (And.intro eI_63 (And.intro eB_63 (And.intro eZ_63 underlying63))))))))))))))))))))))))))))))))))))))))))))))))))))))))))
theorem c_l1Count : ∀ (t : Tm) (m : Int) (st : zy7), 0 ≤ m → m ≤ 120 → zq7 prog 51 [t.av, .int .i64 m] st (fun r st' => r = .int .i64 (min (t.nodes : Int) (m + 1)) ∧ st' = st)
  | .mk k n s ts, m, st, hm0, hm => by
    have hc := fun (x : Tm) (hx : x ∈ ts) m st h h0 => c_l1Count x m st h h0
    refine zw6 [] func51 ntmps51 rfl rfl (by kernel_rfl) (by decide +kernel) (by show 2 ≤ _; decide +kernel) ?_
    simp only [Tm.av_mk, fitsL, AV.fits, and_true, List.length_map, Tm.nodes_mk]
    intro ⟨_, _, _, hl, _⟩
    simp -implicitDefEqProofs only [evE, ↓evZ2, ↓evZ3, ↓Int.cast_ofNat_Int, implies_true, zy2, aFn, List.contains, List.elem, zq3, zy1, zq2, sub, zx3, zw2, zw3, zy3, gd, zq1, zw0, zq0, zx0, zx2, zx1, zy0, zw1, List.range', ↓reduceIte, reduceCtorEq, Nat.reduceEqDiff, Nat.reduceAdd, Nat.reduceLeDiff, Nat.reduceMul, Nat.reduceLT, Nat.reduceBEq, Int.reduceEq, tf_Gs5_51]
    refine zy6 (α := Nat) [] (fun i => i ≤ ts.length)
      (fun i => [(1, .int .i64 m), (2, .pptr (.agg [.int .i64 k, .int .i64 n, .str s, .slice (ts.map Tm.av)])), (5, .int .i64 (min ((1 + sumL Tm.nodes (ts.take i) : Nat) : Int) (m + 1))), (6, .int .i64 i)]) (fun _ => st) (fun i => ts.length - i) (by decide +kernel)
      ⟨0, by omega, zx7.mk (by simp -implicitDefEqProofs only [List.take_zero, sumL, show min ((0 : Int) + 1) (m + 1) = 1 by omega, evE, ↓evZ2, ↓evZ3, ↓Int.cast_ofNat_Int, implies_true, zy2, aFn, List.contains, List.elem, zq3, zy1, zq2, sub, zx3, zw2, zw3, zy3, gd, zq1, zw0, zq0, zx0, zx2, zx1, zy0, zw1, List.range', ↓reduceIte, reduceCtorEq, Nat.reduceEqDiff, Nat.reduceAdd, Nat.reduceLeDiff, Nat.reduceMul, Nat.reduceLT, Nat.reduceBEq, Int.reduceEq, tf_Gs5_51])⟩ ?_
    intro i hi
    simp -implicitDefEqProofs only [List.length_map, evE, ↓evZ2, ↓evZ3, ↓Int.cast_ofNat_Int, implies_true, zy2, aFn, List.contains, List.elem, zq3, zy1, zq2, sub, zx3, zw2, zw3, zy3, gd, zq1, zw0, zq0, zx0, zx2, zx1, zy0, zw1, List.range', ↓reduceIte, reduceCtorEq, Nat.reduceEqDiff, Nat.reduceAdd, Nat.reduceLeDiff, Nat.reduceMul, Nat.reduceLT, Nat.reduceBEq, Int.reduceEq, tf_Gs5_51]
    have hfull : ¬ i < ts.length → sumL Tm.nodes (ts.take i) = sumL Tm.nodes ts := fun h => by rw [List.take_of_length_le (by omega)]
    refine zx4 (fun h5 => ?_) (fun h5 => ?_)
    case refine_2 =>
      simp -implicitDefEqProofs only [h5, evE, ↓evZ2, ↓evZ3, ↓Int.cast_ofNat_Int, implies_true, zy2, aFn, List.contains, List.elem, zq3, zy1, zq2, sub, zx3, zw2, zw3, zy3, gd, zq1, zw0, zq0, zx0, zx2, zx1, zy0, zw1, List.range', ↓reduceIte, reduceCtorEq, Nat.reduceEqDiff, Nat.reduceAdd, Nat.reduceLeDiff, Nat.reduceMul, Nat.reduceLT, Nat.reduceBEq, Int.reduceEq, tf_Gs5_51]
      simp only [Bool.not_true, decide_eq_false_iff_not, Int.ofNat_lt] at h5
      rw [hfull h5]
    simp -implicitDefEqProofs only [h5, evE, ↓evZ2, ↓evZ3, ↓Int.cast_ofNat_Int, implies_true, zy2, aFn, List.contains, List.elem, zq3, zy1, zq2, sub, zx3, zw2, zw3, zy3, gd, zq1, zw0, zq0, zx0, zx2, zx1, zy0, zw1, List.range', ↓reduceIte, reduceCtorEq, Nat.reduceEqDiff, Nat.reduceAdd, Nat.reduceLeDiff, Nat.reduceMul, Nat.reduceLT, Nat.reduceBEq, Int.reduceEq, tf_Gs5_51]
    simp only [decide_eq_true_eq, Int.ofNat_lt] at h5
    obtain ⟨x, hx⟩ : ∃ x, ts[i]? = some x := ⟨_, List.getElem?_eq_getElem h5⟩
    have hs := sumL_take Tm.nodes hx
    refine ⟨fun h6 => ?_, fun h6 => ?_⟩
    case refine_2 =>
      simp -implicitDefEqProofs only [evE, ↓evZ2, ↓evZ3, ↓Int.cast_ofNat_Int, implies_true, zy2, aFn, List.contains, List.elem, zq3, zy1, zq2, sub, zx3, zw2, zw3, zy3, gd, zq1, zw0, zq0, zx0, zx2, zx1, zy0, zw1, List.range', ↓reduceIte, reduceCtorEq, Nat.reduceEqDiff, Nat.reduceAdd, Nat.reduceLeDiff, Nat.reduceMul, Nat.reduceLT, Nat.reduceBEq, Int.reduceEq, tf_Gs5_51]
      simp only [decide_eq_false_iff_not] at h6
      simp only [AV.int.injEq, true_and]
      omega
    simp only [decide_eq_true_eq] at h6
    have e6 : min (((1 + sumL Tm.nodes (ts.take i) : Nat) : Int)) (m + 1) = ((1 + sumL Tm.nodes (ts.take i) : Nat) : Int) := by omega
    rw [e6] at h6 ⊢
    have hw := wrap64 (n := m - ((1 + sumL Tm.nodes (ts.take i) : Nat) : Int)) (by omega) (by omega)
    simp -implicitDefEqProofs only [ev_at (av := Tm.av) eI_23 hx (Tm.av_width x), Tm.av_agg, Tm.av_width, hw, evE, ↓evZ2, ↓evZ3, ↓Int.cast_ofNat_Int, implies_true, zy2, aFn, List.contains, List.elem, zq3, zy1, zq2, sub, zx3, zw2, zw3, zy3, gd, zq1, zw0, zq0, zx0, zx2, zx1, zy0, zw1, List.range', ↓reduceIte, reduceCtorEq, Nat.reduceEqDiff, Nat.reduceAdd, Nat.reduceLeDiff, Nat.reduceMul, Nat.reduceLT, Nat.reduceBEq, Int.reduceEq, tf_Gs5_51]
    refine (hc x (List.mem_of_getElem? hx) _ st (by omega) (by omega)).to ?_
    have hw2 := wrap64 (n := ((1 + sumL Tm.nodes (ts.take i) : Nat) : Int) + min (x.nodes : Int) (m - ((1 + sumL Tm.nodes (ts.take i) : Nat) : Int) + 1)) (by omega) (by omega)
    simp -implicitDefEqProofs only [hw2, evE, ↓evZ2, ↓evZ3, ↓Int.cast_ofNat_Int, implies_true, zy2, aFn, List.contains, List.elem, zq3, zy1, zq2, sub, zx3, zw2, zw3, zy3, gd, zq1, zw0, zq0, zx0, zx2, zx1, zy0, zw1, List.range', ↓reduceIte, reduceCtorEq, Nat.reduceEqDiff, Nat.reduceAdd, Nat.reduceLeDiff, Nat.reduceMul, Nat.reduceLT, Nat.reduceBEq, Int.reduceEq, tf_Gs5_51]
    refine ⟨i + 1, by omega, by omega, zx7.mk ?_⟩
    have := wrap64 (n := (i : Int) + 1) (by omega) (by omega)
    simp -implicitDefEqProofs only [this, show ((1 + sumL Tm.nodes (ts.take i) : Nat) : Int) + min (x.nodes : Int) (m - ((1 + sumL Tm.nodes (ts.take i) : Nat) : Int) + 1) = min ((1 + sumL Tm.nodes (ts.take (i + 1)) : Nat) : Int) (m + 1) by omega, evE, ↓evZ2, ↓evZ3, ↓Int.cast_ofNat_Int, implies_true, zy2, aFn, List.contains, List.elem, zq3, zy1, zq2, sub, zx3, zw2, zw3, zy3, gd, zq1, zw0, zq0, zx0, zx2, zx1, zy0, zw1, List.range', ↓reduceIte, reduceCtorEq, Nat.reduceEqDiff, Nat.reduceAdd, Nat.reduceLeDiff, Nat.reduceMul, Nat.reduceLT, Nat.reduceBEq, Int.reduceEq, tf_Gs5_51]
termination_by t => SizeOf.sizeOf t
decreasing_by have := List.sizeOf_lt_of_mem hx; simp only [Tm.mk.sizeOf_spec]; omega
abbrev tf_Gs5_17 := And.intro tI_2 (And.intro zI_2 (And.intro underlying2 (And.intro tI_3 (And.intro zI_3 (And.intro underlying3 (And.intro tI_4 (And.intro zI_4 (And.intro underlying4 (And.intro tI_6 (And.intro zI_6 (And.intro underlying6 (And.intro tI_7 (And.intro zI_7 (And.intro fI_7_0 (And.intro fI_7_1 (And.intro fI_7_2 (And.intro fI_7_3 (And.intro bI_7 (And.intro tI_10 (And.intro zI_10 (And.intro underlying10 (And.intro tI_25 (And.intro zI_25 (And.intro fI_25_0 (And.intro fI_25_1 (And.intro fI_25_2 (And.intro fI_25_3 (And.intro bI_25 (And.intro tI_70 (And.intro zI_70 (And.intro fI_70_0 (And.intro fI_70_1 bI_70))))))))))))))))))))))))))))))))
theorem c_spec_TermValid (t : Tm) (st : zy7) : zq7 prog 17 [t.av] st (fun r st' => r = .bool t.valid ∧ st' = st) := by
  refine zw6 [] func17 ntmps17 rfl rfl (by kernel_rfl) (by decide +kernel) (by show 1 ≤ _; decide +kernel) ?_
  intro _
  simp -implicitDefEqProofs only [Tm.av_junk, Tm.av_agg, Tm.av_width, evE, ↓evZ2, ↓evZ3, ↓Int.cast_ofNat_Int, implies_true, zy2, aFn, List.contains, List.elem, zq3, zy1, zq2, sub, zx3, zw2, zw3, zy3, gd, zq1, zw0, zq0, zx0, zx2, zx1, zy0, zw1, List.range', ↓reduceIte, reduceCtorEq, Nat.reduceEqDiff, Nat.reduceAdd, Nat.reduceLeDiff, Nat.reduceMul, Nat.reduceLT, Nat.reduceBEq, Int.reduceEq, tf_Gs5_17]
  refine (c_l1Shape t 30 st (by omega) (by omega)).to ?_
  simp -implicitDefEqProofs only [evE, ↓evZ2, ↓evZ3, ↓Int.cast_ofNat_Int, implies_true, zy2, aFn, List.contains, List.elem, zq3, zy1, zq2, sub, zx3, zw2, zw3, zy3, gd, zq1, zw0, zq0, zx0, zx2, zx1, zy0, zw1, List.range', ↓reduceIte, reduceCtorEq, Nat.reduceEqDiff, Nat.reduceAdd, Nat.reduceLeDiff, Nat.reduceMul, Nat.reduceLT, Nat.reduceBEq, Int.reduceEq, tf_Gs5_17]
  refine zx4 (fun h => ?_) (fun h => ?_)
  · simp -implicitDefEqProofs only [h, Tm.av_agg, Tm.av_width, evE, ↓evZ2, ↓evZ3, ↓Int.cast_ofNat_Int, implies_true, zy2, aFn, List.contains, List.elem, zq3, zy1, zq2, sub, zx3, zw2, zw3, zy3, gd, zq1, zw0, zq0, zx0, zx2, zx1, zy0, zw1, List.range', ↓reduceIte, reduceCtorEq, Nat.reduceEqDiff, Nat.reduceAdd, Nat.reduceLeDiff, Nat.reduceMul, Nat.reduceLT, Nat.reduceBEq, Int.reduceEq, tf_Gs5_17]
    refine (c_l1Count t 120 st (by omega) (by omega)).to ?_
    simp -implicitDefEqProofs only [h, evE, ↓evZ2, ↓evZ3, ↓Int.cast_ofNat_Int, implies_true, zy2, aFn, List.contains, List.elem, zq3, zy1, zq2, sub, zx3, zw2, zw3, zy3, gd, zq1, zw0, zq0, zx0, zx2, zx1, zy0, zw1, List.range', ↓reduceIte, reduceCtorEq, Nat.reduceEqDiff, Nat.reduceAdd, Nat.reduceLeDiff, Nat.reduceMul, Nat.reduceLT, Nat.reduceBEq, Int.reduceEq, tf_Gs5_17]
    simp only [Tm.valid, h, Bool.true_and, AV.bool.injEq, decide_eq_decide]
    omega
  · simp -implicitDefEqProofs only [h, evE, ↓evZ2, ↓evZ3, ↓Int.cast_ofNat_Int, implies_true, zy2, aFn, List.contains, List.elem, zq3, zy1, zq2, sub, zx3, zw2, zw3, zy3, gd, zq1, zw0, zq0, zx0, zx2, zx1, zy0, zw1, List.range', ↓reduceIte, reduceCtorEq, Nat.reduceEqDiff, Nat.reduceAdd, Nat.reduceLeDiff, Nat.reduceMul, Nat.reduceLT, Nat.reduceBEq, Int.reduceEq, tf_Gs5_17]
    simp at h
    simp [Tm.valid, h]
end Go.AW


namespace Go.AW
open Go.Proofs.Try
set_option linter.unusedSimpArgs false
set_option maxRecDepth 100000
abbrev tf_Gs4_13 := And.intro tI_2 (And.intro zI_2 (And.intro underlying2 (And.intro tI_3 (And.intro zI_3 (And.intro underlying3 (And.intro tI_4 (And.intro zI_4 (And.intro underlying4 (And.intro tI_8 (And.intro zI_8 (And.intro fI_8_0 (And.intro fI_8_1 (And.intro fI_8_2 (And.intro fI_8_3 (And.intro bI_8 (And.intro tI_9 (And.intro zI_9 (And.intro underlying9 (And.intro tI_10 (And.intro zI_10 (And.intro underlying10 (And.intro tI_11 (And.intro zI_11 (And.intro underlying11 (And.intro tI_12 (And.intro zI_12 (And.intro underlying12 (And.intro tI_14 (And.intro zI_14 (And.intro fI_14_0 (And.intro fI_14_1 (And.intro bI_14 (And.intro tI_23 (And.intro zI_23 (And.intro eI_23 (And.intro eB_23 (And.intro eZ_23 (And.intro underlying23 (And.intro tI_25 (And.intro zI_25 (And.intro fI_25_0 (And.intro fI_25_1 (And.intro fI_25_2 (And.intro fI_25_3 (And.intro bI_25 (And.intro tI_39 zI_39))))))))))))))))))))))))))))))))))))))))))))))
theorem c_isBuilt (k n : Int) (s : ByteArray) (ts : List Tm) (st : zy7) : zq7 prog 13 [(Tm.mk k n s ts).av] st (fun r st' => r = .bool (decide (k = 3) && isBuiltin s (ts.length : Int)) ∧ st' = st) := by
  have h1 := c_impl_IsBuiltin s ts.length st
  refine zw6 [] func13 ntmps13 rfl rfl (by kernel_rfl) (by decide +kernel) (by show 1 ≤ _; decide +kernel) ?_
  intro _
  simp only [Tm.av_mk]
  simp -implicitDefEqProofs only [List.length_map, evE, ↓evZ2, ↓evZ3, ↓Int.cast_ofNat_Int, implies_true, zy2, aFn, List.contains, List.elem, zq3, zy1, zq2, sub, zx3, zw2, zw3, zy3, gd, zq1, zw0, zq0, zx0, zx2, zx1, zy0, zw1, List.range', ↓reduceIte, reduceCtorEq, Nat.reduceEqDiff, Nat.reduceAdd, Nat.reduceLeDiff, Nat.reduceMul, Nat.reduceLT, Nat.reduceBEq, Int.reduceEq, tf_Gs4_13]
  refine zx4 (fun h => ?_) (fun h => ?_)
  · simp -implicitDefEqProofs only [h, List.length_map, evE, ↓evZ2, ↓evZ3, ↓Int.cast_ofNat_Int, implies_true, zy2, aFn, List.contains, List.elem, zq3, zy1, zq2, sub, zx3, zw2, zw3, zy3, gd, zq1, zw0, zq0, zx0, zx2, zx1, zy0, zw1, List.range', ↓reduceIte, reduceCtorEq, Nat.reduceEqDiff, Nat.reduceAdd, Nat.reduceLeDiff, Nat.reduceMul, Nat.reduceLT, Nat.reduceBEq, Int.reduceEq, tf_Gs4_13]
    refine h1.to ?_
    clear h1
    simp -implicitDefEqProofs only [h, evE, ↓evZ2, ↓evZ3, ↓Int.cast_ofNat_Int, implies_true, zy2, aFn, List.contains, List.elem, zq3, zy1, zq2, sub, zx3, zw2, zw3, zy3, gd, zq1, zw0, zq0, zx0, zx2, zx1, zy0, zw1, List.range', ↓reduceIte, reduceCtorEq, Nat.reduceEqDiff, Nat.reduceAdd, Nat.reduceLeDiff, Nat.reduceMul, Nat.reduceLT, Nat.reduceBEq, Int.reduceEq, tf_Gs4_13]
  · simp -implicitDefEqProofs only [h, evE, ↓evZ2, ↓evZ3, ↓Int.cast_ofNat_Int, implies_true, zy2, aFn, List.contains, List.elem, zq3, zy1, zq2, sub, zx3, zw2, zw3, zy3, gd, zq1, zw0, zq0, zx0, zx2, zx1, zy0, zw1, List.range', ↓reduceIte, reduceCtorEq, Nat.reduceEqDiff, Nat.reduceAdd, Nat.reduceLeDiff, Nat.reduceMul, Nat.reduceLT, Nat.reduceBEq, Int.reduceEq, tf_Gs4_13]
    simp at h
    simp [h]
end Go.AW


namespace Go.AW
open Go.Proofs.Try
set_option linter.unusedSimpArgs false
set_option maxRecDepth 100000
theorem upd_self {st : zy7} {b : Nat} {o : AO} (h : st b = some o) : st.upd b o = st := by
  funext x; simp only [zy7.upd]; split
  · rename_i e; rw [e, h]
  · rfl
def scanned (ok : Bool) (c n : Int) (b : Nat) (st : zy7) (r : AV) (st' : zy7) : Prop :=
  ∃ c', r = .bool (decide (c + n ≤ 120) && ok) ∧ st' = st.upd b (.cells [.int .i64 c']) ∧ ((decide (c + n ≤ 120) && ok) = true → c' = c + n)
abbrev tf_Gs6_66 := And.intro tI_3 (And.intro zI_3 (And.intro underlying3 (And.intro tI_4 (And.intro zI_4 (And.intro underlying4 (And.intro tI_5 (And.intro zI_5 (And.intro underlying5 (And.intro tI_7 (And.intro zI_7 (And.intro fI_7_0 (And.intro fI_7_1 (And.intro fI_7_2 (And.intro fI_7_3 (And.intro bI_7 (And.intro tI_8 (And.intro zI_8 (And.intro fI_8_0 (And.intro fI_8_1 (And.intro fI_8_2 (And.intro fI_8_3 (And.intro bI_8 (And.intro tI_9 (And.intro zI_9 (And.intro underlying9 (And.intro tI_11 (And.intro zI_11 (And.intro underlying11 (And.intro tI_25 (And.intro zI_25 (And.intro fI_25_0 (And.intro fI_25_1 (And.intro fI_25_2 (And.intro fI_25_3 (And.intro bI_25 (And.intro tI_67 zI_67))))))))))))))))))))))))))))))))))))
theorem c_scan_1 (x : Tm) (d c : Int) (b : Nat) (st : zy7) (hd : -1000 ≤ d) (hd1 : d ≤ 1000)
    (h : zq7 prog 38 [x.av, .int .i64 (d + 1), .ptr b 0] st (scanned (x.shape (30 - d)) c x.nodes b st)) :
    zq7 prog 66 [x.av, .pptr (.int .i64 d), .pptr (.ptr b 0)] st (fun r st' => ∃ c', r = .bool (!(decide (c + x.nodes ≤ 120) && x.shape (30 - d))) ∧ st' = st.upd b (.cells [.int .i64 c']) ∧ ((decide (c + (x.nodes : Int) ≤ 120) && x.shape (30 - d)) = true → c' = c + x.nodes)) := by
  have hw := wrap64 (n := d + 1) (by omega) (by omega)
  refine zw6 [] func66 ntmps66 rfl rfl (by kernel_rfl) (by decide +kernel) (by show 3 ≤ _; decide +kernel) ?_
  intro _
  simp -implicitDefEqProofs only [hw, Tm.av_junk, Tm.av_agg, Tm.av_width, evE, ↓evZ2, ↓evZ3, ↓Int.cast_ofNat_Int, implies_true, zy2, aFn, List.contains, List.elem, zq3, zy1, zq2, sub, zx3, zw2, zw3, zy3, gd, zq1, zw0, zq0, zx0, zx2, zx1, zy0, zw1, List.range', ↓reduceIte, reduceCtorEq, Nat.reduceEqDiff, Nat.reduceAdd, Nat.reduceLeDiff, Nat.reduceMul, Nat.reduceLT, Nat.reduceBEq, Int.reduceEq, tf_Gs6_66]
  refine h.mono ?_
  rintro _ _ ⟨c', rfl, rfl, hc⟩
  simp -implicitDefEqProofs only [evE, ↓evZ2, ↓evZ3, ↓Int.cast_ofNat_Int, implies_true, zy2, aFn, List.contains, List.elem, zq3, zy1, zq2, sub, zx3, zw2, zw3, zy3, gd, zq1, zw0, zq0, zx0, zx2, zx1, zy0, zw1, List.range', ↓reduceIte, reduceCtorEq, Nat.reduceEqDiff, Nat.reduceAdd, Nat.reduceLeDiff, Nat.reduceMul, Nat.reduceLT, Nat.reduceBEq, Int.reduceEq, tf_Gs6_66]
  refine ⟨c', ?_⟩
  first | exact hc | exact ⟨rfl, rfl, hc⟩ | exact ⟨rfl, hc⟩ | trace_state
abbrev tf_Gs6_78 := And.intro tI_2 (And.intro zI_2 (And.intro underlying2 (And.intro tI_3 (And.intro zI_3 (And.intro underlying3 (And.intro tI_4 (And.intro zI_4 (And.intro underlying4 (And.intro tI_5 (And.intro zI_5 (And.intro underlying5 (And.intro tI_6 (And.intro zI_6 (And.intro underlying6 (And.intro tI_7 (And.intro zI_7 (And.intro fI_7_0 (And.intro fI_7_1 (And.intro fI_7_2 (And.intro fI_7_3 (And.intro bI_7 (And.intro tI_8 (And.intro zI_8 (And.intro fI_8_0 (And.intro fI_8_1 (And.intro fI_8_2 (And.intro fI_8_3 (And.intro bI_8 (And.intro tI_11 (And.intro zI_11 (And.intro underlying11 (And.intro tI_15 (And.intro zI_15 (And.intro tI_16 (And.intro zI_16 (And.intro tI_18 (And.intro zI_18 (And.intro fI_18_0 (And.intro bI_18 (And.intro tI_19 (And.intro zI_19 (And.intro fI_19_0 (And.intro bI_19 (And.intro tI_23 (And.intro zI_23 (And.intro eI_23 (And.intro eB_23 (And.intro eZ_23 (And.intro underlying23 (And.intro tI_25 (And.intro zI_25 (And.intro fI_25_0 (And.intro fI_25_1 (And.intro fI_25_2 (And.intro fI_25_3 (And.intro bI_25 (And.intro tI_108 (And.intro zI_108 (And.intro underlying108 (And.intro tI_109 (And.intro zI_109 underlying109)))))))))))))))))))))))))))))))))))))))))))))))))))))))))))))
theorem c_IndexScan (l : List Tm) (d c : Int) (b : Nat) (st : zy7) (hd : -1000 ≤ d) (hd1 : d ≤ 1000) (hb : st b = some (.cells [.int .i64 c])) (hc0 : 0 ≤ c) (hc1 : c ≤ 120)
    (h : ∀ x ∈ l, ∀ (c : Int) (st : zy7), st b = some (.cells [.int .i64 c]) → 0 ≤ c → c ≤ 120 → zq7 prog 38 [x.av, .int .i64 (d + 1), .ptr b 0] st (scanned (x.shape (30 - d)) c x.nodes b st)) :
    zq7 prog 78 [.slice (l.map Tm.av), .func 66 [.pptr (.int .i64 d), .pptr (.ptr b 0)]] st
      (fun r st' => ∃ j c', r = .int .i64 j ∧ decide (0 ≤ j) = (!(decide (c + (sumL Tm.nodes l : Int) ≤ 120) && l.all fun t => t.shape (30 - d))) ∧ st' = st.upd b (.cells [.int .i64 c']) ∧ (decide (0 ≤ j) = false → c' = c + (sumL Tm.nodes l : Int))) := by
  refine zw6 [] func78 ntmps78 rfl rfl (by kernel_rfl) (by decide +kernel) (by show 2 ≤ _; decide +kernel) ?_
  simp only [fitsL, AV.fits, and_true, List.length_map]
  intro ⟨hl, _⟩
  simp -implicitDefEqProofs only [List.length_map, evE, ↓evZ2, ↓evZ3, ↓Int.cast_ofNat_Int, implies_true, zy2, aFn, List.contains, List.elem, zq3, zy1, zq2, sub, zx3, zw2, zw3, zy3, gd, zq1, zw0, zq0, zx0, zx2, zx1, zy0, zw1, List.range', ↓reduceIte, reduceCtorEq, Nat.reduceEqDiff, Nat.reduceAdd, Nat.reduceLeDiff, Nat.reduceMul, Nat.reduceLT, Nat.reduceBEq, Int.reduceEq, tf_Gs6_78]
  refine zy6 (α := Nat) [] (fun i => i ≤ l.length ∧ c + (sumL Tm.nodes (l.take i) : Int) ≤ 120 ∧ ∀ (j : Nat) x, j < i → l[j]? = some x → x.shape (30 - d) = true)
    (fun i => [(0, .slice (l.map Tm.av)), (1, .func 66 [.pptr (.int .i64 d), .pptr (.ptr b 0)]), (7, .int .i64 l.length), (8, .int .i64 i)]) (fun i => st.upd b (.cells [.int .i64 (c + (sumL Tm.nodes (l.take i) : Int))])) (fun i => l.length - i) (by decide +kernel)
    ⟨0, ⟨by omega, by simp only [List.take_zero, sumL]; omega, by intro j x h; omega⟩, by
      simp only [List.take_zero, sumL]
      rw [show c + ((0 : Nat) : Int) = c by omega, upd_self hb]
      exact zx7.mk (by simp -implicitDefEqProofs only [evE, ↓evZ2, ↓evZ3, ↓Int.cast_ofNat_Int, implies_true, zy2, aFn, List.contains, List.elem, zq3, zy1, zq2, sub, zx3, zw2, zw3, zy3, gd, zq1, zw0, zq0, zx0, zx2, zx1, zy0, zw1, List.range', ↓reduceIte, reduceCtorEq, Nat.reduceEqDiff, Nat.reduceAdd, Nat.reduceLeDiff, Nat.reduceMul, Nat.reduceLT, Nat.reduceBEq, Int.reduceEq, tf_Gs6_78])⟩ ?_
  intro i ⟨hi, hsum, hall⟩
  simp -implicitDefEqProofs only [List.length_map, evE, ↓evZ2, ↓evZ3, ↓Int.cast_ofNat_Int, implies_true, zy2, aFn, List.contains, List.elem, zq3, zy1, zq2, sub, zx3, zw2, zw3, zy3, gd, zq1, zw0, zq0, zx0, zx2, zx1, zy0, zw1, List.range', ↓reduceIte, reduceCtorEq, Nat.reduceEqDiff, Nat.reduceAdd, Nat.reduceLeDiff, Nat.reduceMul, Nat.reduceLT, Nat.reduceBEq, Int.reduceEq, tf_Gs6_78]
  refine ⟨fun h5 => ?_, fun h5 => ?_⟩
  case refine_2 =>
    simp -implicitDefEqProofs only [evE, ↓evZ2, ↓evZ3, ↓Int.cast_ofNat_Int, implies_true, zy2, aFn, List.contains, List.elem, zq3, zy1, zq2, sub, zx3, zw2, zw3, zy3, gd, zq1, zw0, zq0, zx0, zx2, zx1, zy0, zw1, List.range', ↓reduceIte, reduceCtorEq, Nat.reduceEqDiff, Nat.reduceAdd, Nat.reduceLeDiff, Nat.reduceMul, Nat.reduceLT, Nat.reduceBEq, Int.reduceEq, tf_Gs6_78]
    simp only [decide_eq_false_iff_not, Int.ofNat_lt] at h5
    rw [List.take_of_length_le (by omega)] at hsum ⊢
    have ha : (l.all fun t => t.shape (30 - d)) = true := all_of fun j x hx => hall j x (by have := (List.getElem?_eq_some_iff.1 hx).1; omega) hx
    exact ⟨-1, _, rfl, by rw [ha]; simp <;> omega, rfl, fun _ => rfl⟩
  simp only [decide_eq_true_eq, Int.ofNat_lt] at h5
  obtain ⟨x, hx⟩ : ∃ x, l[i]? = some x := ⟨_, List.getElem?_eq_getElem h5⟩
  have hs := sumL_take Tm.nodes hx
  simp -implicitDefEqProofs only [ev_at (av := Tm.av) eI_23 hx (Tm.av_width x), Tm.av_agg, Tm.av_width, evE, ↓evZ2, ↓evZ3, ↓Int.cast_ofNat_Int, implies_true, zy2, aFn, List.contains, List.elem, zq3, zy1, zq2, sub, zx3, zw2, zw3, zy3, gd, zq1, zw0, zq0, zx0, zx2, zx1, zy0, zw1, List.range', ↓reduceIte, reduceCtorEq, Nat.reduceEqDiff, Nat.reduceAdd, Nat.reduceLeDiff, Nat.reduceMul, Nat.reduceLT, Nat.reduceBEq, Int.reduceEq, tf_Gs6_78]
  refine (c_scan_1 x d (c + (sumL Tm.nodes (l.take i) : Int)) b _ hd hd1 (h x (List.mem_of_getElem? hx) _ _ (zy7.upd_same _ _ _) (by omega) hsum)).mono ?_
  rintro _ _ ⟨c', rfl, rfl, hc'⟩
  simp -implicitDefEqProofs only [zy7.upd_upd, evE, ↓evZ2, ↓evZ3, ↓Int.cast_ofNat_Int, implies_true, zy2, aFn, List.contains, List.elem, zq3, zy1, zq2, sub, zx3, zw2, zw3, zy3, gd, zq1, zw0, zq0, zx0, zx2, zx1, zy0, zw1, List.range', ↓reduceIte, reduceCtorEq, Nat.reduceEqDiff, Nat.reduceAdd, Nat.reduceLeDiff, Nat.reduceMul, Nat.reduceLT, Nat.reduceBEq, Int.reduceEq, tf_Gs6_78]
  refine ⟨fun h6 => ?_, fun h6 => ?_⟩
  · simp -implicitDefEqProofs only [evE, ↓evZ2, ↓evZ3, ↓Int.cast_ofNat_Int, implies_true, zy2, aFn, List.contains, List.elem, zq3, zy1, zq2, sub, zx3, zw2, zw3, zy3, gd, zq1, zw0, zq0, zx0, zx2, zx1, zy0, zw1, List.range', ↓reduceIte, reduceCtorEq, Nat.reduceEqDiff, Nat.reduceAdd, Nat.reduceLeDiff, Nat.reduceMul, Nat.reduceLT, Nat.reduceBEq, Int.reduceEq, tf_Gs6_78]
    refine ⟨i, c', rfl, ?_, rfl, fun h7 => absurd h7 (by simp)⟩
    simp only [Bool.not_eq_true', Bool.and_eq_false_iff, decide_eq_false_iff_not] at h6
    rcases h6 with h6 | h6
    · rw [show decide (c + (sumL Tm.nodes l : Int) ≤ 120) = false by simp; omega]
      simp
    · rw [all_at hx h6]
      simp
  simp only [Bool.not_eq_false'] at h6
  rw [hc' h6]
  simp only [Bool.and_eq_true, decide_eq_true_eq] at h6
  simp -implicitDefEqProofs only [evE, ↓evZ2, ↓evZ3, ↓Int.cast_ofNat_Int, implies_true, zy2, aFn, List.contains, List.elem, zq3, zy1, zq2, sub, zx3, zw2, zw3, zy3, gd, zq1, zw0, zq0, zx0, zx2, zx1, zy0, zw1, List.range', ↓reduceIte, reduceCtorEq, Nat.reduceEqDiff, Nat.reduceAdd, Nat.reduceLeDiff, Nat.reduceMul, Nat.reduceLT, Nat.reduceBEq, Int.reduceEq, tf_Gs6_78]
  refine ⟨i + 1, by omega, ⟨by omega, by omega, fun j u hj hu => ?_⟩, ?_⟩
  · rcases Nat.lt_or_ge j i with h8 | h8
    · exact hall j u h8 hu
    · obtain rfl : j = i := by omega
      rw [hx] at hu; cases hu; exact h6.2
  · rw [show c + (sumL Tm.nodes (l.take i) : Int) + (x.nodes : Int) = c + (sumL Tm.nodes (l.take (i + 1)) : Int) by omega]
    have := wrap64 (n := (i : Int) + 1) (by omega) (by omega)
    exact zx7.mk (by simp -implicitDefEqProofs only [this, evE, ↓evZ2, ↓evZ3, ↓Int.cast_ofNat_Int, implies_true, zy2, aFn, List.contains, List.elem, zq3, zy1, zq2, sub, zx3, zw2, zw3, zy3, gd, zq1, zw0, zq0, zx0, zx2, zx1, zy0, zw1, List.range', ↓reduceIte, reduceCtorEq, Nat.reduceEqDiff, Nat.reduceAdd, Nat.reduceLeDiff, Nat.reduceMul, Nat.reduceLT, Nat.reduceBEq, Int.reduceEq, tf_Gs6_78])
abbrev tf_Gs6_65 := And.intro tI_3 (And.intro zI_3 (And.intro underlying3 (And.intro tI_4 (And.intro zI_4 (And.intro underlying4 (And.intro tI_5 (And.intro zI_5 (And.intro underlying5 (And.intro tI_6 (And.intro zI_6 (And.intro underlying6 (And.intro tI_7 (And.intro zI_7 (And.intro fI_7_0 (And.intro fI_7_1 (And.intro fI_7_2 (And.intro fI_7_3 (And.intro bI_7 (And.intro tI_9 (And.intro zI_9 (And.intro underlying9 (And.intro tI_23 (And.intro zI_23 (And.intro eI_23 (And.intro eB_23 (And.intro eZ_23 underlying23))))))))))))))))))))))))))
theorem c_ContainsScan (l : List Tm) (d c : Int) (b : Nat) (st : zy7) (hd : -1000 ≤ d) (hd1 : d ≤ 1000) (hb : st b = some (.cells [.int .i64 c])) (hc0 : 0 ≤ c) (hc1 : c ≤ 120)
    (h : ∀ x ∈ l, ∀ (c : Int) (st : zy7), st b = some (.cells [.int .i64 c]) → 0 ≤ c → c ≤ 120 → zq7 prog 38 [x.av, .int .i64 (d + 1), .ptr b 0] st (scanned (x.shape (30 - d)) c x.nodes b st)) :
    zq7 prog 65 [.slice (l.map Tm.av), .func 66 [.pptr (.int .i64 d), .pptr (.ptr b 0)]] st
      (fun r st' => ∃ c', r = .bool (!(decide (c + (sumL Tm.nodes l : Int) ≤ 120) && l.all fun t => t.shape (30 - d))) ∧ st' = st.upd b (.cells [.int .i64 c']) ∧ ((decide (c + (sumL Tm.nodes l : Int) ≤ 120) && l.all fun t => t.shape (30 - d)) = true → c' = c + (sumL Tm.nodes l : Int))) := by
  have h1 := c_IndexScan l d c b st hd hd1 hb hc0 hc1 h
  refine zw6 [] func65 ntmps65 rfl rfl (by kernel_rfl) (by decide +kernel) (by show 2 ≤ _; decide +kernel) ?_
  intro _
  simp -implicitDefEqProofs only [evE, ↓evZ2, ↓evZ3, ↓Int.cast_ofNat_Int, implies_true, zy2, aFn, List.contains, List.elem, zq3, zy1, zq2, sub, zx3, zw2, zw3, zy3, gd, zq1, zw0, zq0, zx0, zx2, zx1, zy0, zw1, List.range', ↓reduceIte, reduceCtorEq, Nat.reduceEqDiff, Nat.reduceAdd, Nat.reduceLeDiff, Nat.reduceMul, Nat.reduceLT, Nat.reduceBEq, Int.reduceEq, tf_Gs6_65]
  refine h1.mono ?_
  rintro _ _ ⟨j, c', rfl, hj, rfl, hc⟩
  simp -implicitDefEqProofs only [evE, ↓evZ2, ↓evZ3, ↓Int.cast_ofNat_Int, implies_true, zy2, aFn, List.contains, List.elem, zq3, zy1, zq2, sub, zx3, zw2, zw3, zy3, gd, zq1, zw0, zq0, zx0, zx2, zx1, zy0, zw1, List.range', ↓reduceIte, reduceCtorEq, Nat.reduceEqDiff, Nat.reduceAdd, Nat.reduceLeDiff, Nat.reduceMul, Nat.reduceLT, Nat.reduceBEq, Int.reduceEq, tf_Gs6_65]
  refine ⟨c', by rw [hj], rfl, fun h => hc (by rw [hj, h]; rfl)⟩
end Go.AW


namespace Go.AW
open Go.Proofs.Try
set_option linter.unusedSimpArgs false
set_option maxRecDepth 100000
abbrev tf_Gs7_38 := And.intro tI_2 (And.intro zI_2 (And.intro underlying2 (And.intro tI_3 (And.intro zI_3 (And.intro underlying3 (And.intro tI_4 (And.intro zI_4 (And.intro underlying4 (And.intro tI_5 (And.intro zI_5 (And.intro underlying5 (And.intro tI_6 (And.intro zI_6 (And.intro underlying6 (And.intro tI_7 (And.intro zI_7 (And.intro fI_7_0 (And.intro fI_7_1 (And.intro fI_7_2 (And.intro fI_7_3 (And.intro bI_7 (And.intro tI_8 (And.intro zI_8 (And.intro fI_8_0 (And.intro fI_8_1 (And.intro fI_8_2 (And.intro fI_8_3 (And.intro bI_8 (And.intro tI_9 (And.intro zI_9 (And.intro underlying9 (And.intro tI_10 (And.intro zI_10 (And.intro underlying10 (And.intro tI_11 (And.intro zI_11 (And.intro underlying11 (And.intro tI_12 (And.intro zI_12 (And.intro underlying12 (And.intro tI_13 (And.intro zI_13 (And.intro fI_13_0 (And.intro fI_13_1 (And.intro bI_13 (And.intro tI_23 (And.intro zI_23 (And.intro eI_23 (And.intro eB_23 (And.intro eZ_23 (And.intro underlying23 (And.intro tI_25 (And.intro zI_25 (And.intro fI_25_0 (And.intro fI_25_1 (And.intro fI_25_2 (And.intro fI_25_3 (And.intro bI_25 (And.intro tI_34 (And.intro zI_34 (And.intro tI_48 (And.intro zI_48 (And.intro fI_48_0 (And.intro fI_48_1 (And.intro bI_48 (And.intro tI_61 (And.intro zI_61 (And.intro eI_61 (And.intro eB_61 (And.intro eZ_61 (And.intro underlying61 (And.intro tI_67 (And.intro zI_67 (And.intro tI_68 (And.intro zI_68 underlying68)))))))))))))))))))))))))))))))))))))))))))))))))))))))))))))))))))))))))))
theorem c_scan : ∀ (t : Tm) (d c : Int) (b : Nat) (st : zy7), st b = some (.cells [.int .i64 c]) → 0 ≤ c → c ≤ 120 → 0 ≤ d → d ≤ 31 → zq7 prog 38 [t.av, .int .i64 d, .ptr b 0] st (scanned (t.shape (31 - d)) c t.nodes b st)
  | .mk k n s ts, d, c, b, st, hb, hc0, hc1, hd0, hd1 => by
    have hk := fun (st : zy7) (hb : st b = some (.cells [.int .i64 (c + 1)])) (h1 : c + 1 ≤ 120) (h2 : d ≤ 30) => c_ContainsScan ts d (c + 1) b st (by omega) (by omega) hb (by omega) h1 fun x hx c st hb hc0 hc1 => by
      have := c_scan x (d + 1) c b st hb hc0 hc1 (by omega) (by omega)
      rw [show (31 : Int) - (d + 1) = 30 - d by omega] at this
      exact this
    have hw := wrap64 (n := c + 1) (by omega) (by omega)
    unfold scanned
    rw [Tm.nodes_mk, Tm.shape_mk]
    refine zw6 [] func38 ntmps38 rfl rfl (by kernel_rfl) (by decide +kernel) (by show 3 ≤ _; decide +kernel) ?_
    simp only [Tm.av_mk, fitsL, AV.fits, and_true, List.length_map]
    intro ⟨_, _, _, hl, _⟩
    simp -implicitDefEqProofs only [hb, zy4, hw, evE, ↓evZ2, ↓evZ3, ↓Int.cast_ofNat_Int, implies_true, zy2, aFn, List.contains, List.elem, zq3, zy1, zq2, sub, zx3, zw2, zw3, zy3, gd, zq1, zw0, zq0, zx0, zx2, zx1, zy0, zw1, List.range', ↓reduceIte, reduceCtorEq, Nat.reduceEqDiff, Nat.reduceAdd, Nat.reduceLeDiff, Nat.reduceMul, Nat.reduceLT, Nat.reduceBEq, Int.reduceEq, tf_Gs7_38]
    have hL : (ts.map Tm.av).length = ts.length := List.length_map _
    have hfin : ∀ (v : Bool), v = (decide (c + ((1 + sumL Tm.nodes ts : Nat) : Int) ≤ 120) && (decide (1 ≤ 31 - d) && ownOk k n s ts.length && ts.all fun t => t.shape (31 - d - 1))) → (v = true → ts = []) →
        ∃ c', AV.bool v = AV.bool (decide (c + ((1 + sumL Tm.nodes ts : Nat) : Int) ≤ 120) && (decide (1 ≤ 31 - d) && ownOk k n s ts.length && ts.all fun t => t.shape (31 - d - 1))) ∧ st.upd b (.cells [.int .i64 (c + 1)]) = st.upd b (.cells [.int .i64 c']) ∧ ((decide (c + ((1 + sumL Tm.nodes ts : Nat) : Int) ≤ 120) && (decide (1 ≤ 31 - d) && ownOk k n s ts.length && ts.all fun t => t.shape (31 - d - 1))) = true → c' = c + ((1 + sumL Tm.nodes ts : Nat) : Int)) :=
      fun v h1 h2 => ⟨c + 1, by rw [h1], rfl, fun h3 => by rw [h2 (h1.trans h3)]; simp [sumL]⟩
    refine zx4 (fun h1 => ?_) (fun h1 => ?_)
    case refine_2 =>
      simp -implicitDefEqProofs only [h1, evE, ↓evZ2, ↓evZ3, ↓Int.cast_ofNat_Int, implies_true, zy2, aFn, List.contains, List.elem, zq3, zy1, zq2, sub, zx3, zw2, zw3, zy3, gd, zq1, zw0, zq0, zx0, zx2, zx1, zy0, zw1, List.range', ↓reduceIte, reduceCtorEq, Nat.reduceEqDiff, Nat.reduceAdd, Nat.reduceLeDiff, Nat.reduceMul, Nat.reduceLT, Nat.reduceBEq, Int.reduceEq, tf_Gs7_38]
      simp only [Bool.not_false, decide_eq_true_eq] at h1
      refine hfin false ?_ (by intro h; cases h)
      rw [show decide (c + ((1 + sumL Tm.nodes ts : Nat) : Int) ≤ 120) = false by simp; omega]
      rfl
    simp -implicitDefEqProofs only [h1, evE, ↓evZ2, ↓evZ3, ↓Int.cast_ofNat_Int, implies_true, zy2, aFn, List.contains, List.elem, zq3, zy1, zq2, sub, zx3, zw2, zw3, zy3, gd, zq1, zw0, zq0, zx0, zx2, zx1, zy0, zw1, List.range', ↓reduceIte, reduceCtorEq, Nat.reduceEqDiff, Nat.reduceAdd, Nat.reduceLeDiff, Nat.reduceMul, Nat.reduceLT, Nat.reduceBEq, Int.reduceEq, tf_Gs7_38]
    refine ⟨fun h2 => ?_, fun h2 => ?_⟩
    · simp -implicitDefEqProofs only [evE, ↓evZ2, ↓evZ3, ↓Int.cast_ofNat_Int, implies_true, zy2, aFn, List.contains, List.elem, zq3, zy1, zq2, sub, zx3, zw2, zw3, zy3, gd, zq1, zw0, zq0, zx0, zx2, zx1, zy0, zw1, List.range', ↓reduceIte, reduceCtorEq, Nat.reduceEqDiff, Nat.reduceAdd, Nat.reduceLeDiff, Nat.reduceMul, Nat.reduceLT, Nat.reduceBEq, Int.reduceEq, tf_Gs7_38]
      simp only [decide_eq_true_eq] at h2
      refine hfin false ?_ (by intro h; cases h)
      rw [show decide (1 ≤ 31 - d) = false by simp; omega]
      simp
    simp only [decide_eq_false_iff_not] at h1 h2
    rw [show decide (1 ≤ 31 - d) = true by simp; omega] at hfin ⊢
    simp only [Bool.true_and] at hfin ⊢
    rw [show 31 - d - 1 = 30 - d by omega] at hfin ⊢
    -- no kids
    have hleaf : ∀ q : Bool, (∀ h : ts = [], ownOk k n s ts.length = q) → (ts ≠ [] → ownOk k n s ts.length = false) → (q && decide ((ts.length : Int) = 0)) = (decide (c + ((1 + sumL Tm.nodes ts : Nat) : Int) ≤ 120) && (ownOk k n s ts.length && ts.all fun t => t.shape (30 - d))) := by
      intro q hq1 hq2
      by_cases ht : ts = []
      · rw [hq1 ht]; subst ht
        have e : c + ((1 + sumL Tm.nodes [] : Nat) : Int) ≤ 120 := by simp only [sumL]; omega
        rw [decide_eq_true e]
        simp
      · rw [hq2 ht]
        have : ¬ (ts.length : Int) = 0 := by intro h; exact ht (List.eq_nil_of_length_eq_zero (by omega))
        rw [decide_eq_false this]
        simp
    simp -implicitDefEqProofs only [evE, ↓evZ2, ↓evZ3, ↓Int.cast_ofNat_Int, implies_true, zy2, aFn, List.contains, List.elem, zq3, zy1, zq2, sub, zx3, zw2, zw3, zy3, gd, zq1, zw0, zq0, zx0, zx2, zx1, zy0, zw1, List.range', ↓reduceIte, reduceCtorEq, Nat.reduceEqDiff, Nat.reduceAdd, Nat.reduceLeDiff, Nat.reduceMul, Nat.reduceLT, Nat.reduceBEq, Int.reduceEq, tf_Gs7_38]
    refine zq4 (fun hk1 => ?_) (fun hk1 => ?_)
    · simp only [decide_eq_true_eq] at hk1
      subst hk1
      simp -implicitDefEqProofs only [evE, ↓evZ2, ↓evZ3, ↓Int.cast_ofNat_Int, implies_true, zy2, aFn, List.contains, List.elem, zq3, zy1, zq2, sub, zx3, zw2, zw3, zy3, gd, zq1, zw0, zq0, zx0, zx2, zx1, zy0, zw1, List.range', ↓reduceIte, reduceCtorEq, Nat.reduceEqDiff, Nat.reduceAdd, Nat.reduceLeDiff, Nat.reduceMul, Nat.reduceLT, Nat.reduceBEq, Int.reduceEq, tf_Gs7_38]
      refine (c_within _ _ _ _).to ?_
      repeat' (first
        | (simp -implicitDefEqProofs only [*, evE, ↓evZ2, ↓evZ3, ↓Int.cast_ofNat_Int, implies_true, zy2, aFn, List.contains, List.elem, zq3, zy1, zq2, sub, zx3, zw2, zw3, zy3, gd, zq1, zw0, zq0, zx0, zx2, zx1, zy0, zw1, List.range', ↓reduceIte, reduceCtorEq, Nat.reduceEqDiff, Nat.reduceAdd, Nat.reduceLeDiff, Nat.reduceMul, Nat.reduceLT, Nat.reduceBEq, Int.reduceEq, tf_Gs7_38])
        | (refine zx4 (fun h => ?_) (fun h => ?_))
        | (refine zq4 (fun h => ?_) (fun h => ?_)))
      all_goals first
        | (refine hfin false ?_ (by intro h; cases h); rw [show ownOk 1 n s ts.length = false by first | (simp only [ownOk, *, show decide ((2 : Int) = 1) = false from rfl, show decide ((2 : Int) = 2) = true from rfl, show decide ((1 : Int) = 1) = true from rfl, cond_true, cond_false, Bool.not_true, Bool.not_false, Bool.false_and, Bool.and_false, Bool.true_and]; done) | (simp_all [ownOk]; done) | (simp_all [ownOk]; intro a e; have := h a; omega)]; simp; done)
        | (refine hfin _ ?_ (fun h => List.eq_nil_of_length_eq_zero (by simpa using h)); rw [← hleaf true (fun h => by simp_all [ownOk]) (fun h => by simp [ownOk, h])]; simp; done)
    simp only [decide_eq_false_iff_not] at hk1
    simp -implicitDefEqProofs only [evE, ↓evZ2, ↓evZ3, ↓Int.cast_ofNat_Int, implies_true, zy2, aFn, List.contains, List.elem, zq3, zy1, zq2, sub, zx3, zw2, zw3, zy3, gd, zq1, zw0, zq0, zx0, zx2, zx1, zy0, zw1, List.range', ↓reduceIte, reduceCtorEq, Nat.reduceEqDiff, Nat.reduceAdd, Nat.reduceLeDiff, Nat.reduceMul, Nat.reduceLT, Nat.reduceBEq, Int.reduceEq, tf_Gs7_38]
    refine zq4 (fun hk2 => ?_) (fun hk2 => ?_)
    · simp only [decide_eq_true_eq] at hk2
      subst hk2
      simp -implicitDefEqProofs only [evE, ↓evZ2, ↓evZ3, ↓Int.cast_ofNat_Int, implies_true, zy2, aFn, List.contains, List.elem, zq3, zy1, zq2, sub, zx3, zw2, zw3, zy3, gd, zq1, zw0, zq0, zx0, zx2, zx1, zy0, zw1, List.range', ↓reduceIte, reduceCtorEq, Nat.reduceEqDiff, Nat.reduceAdd, Nat.reduceLeDiff, Nat.reduceMul, Nat.reduceLT, Nat.reduceBEq, Int.reduceEq, tf_Gs7_38]
      refine (c_within _ _ _ _).to ?_
      repeat' (first
        | (simp -implicitDefEqProofs only [*, evE, ↓evZ2, ↓evZ3, ↓Int.cast_ofNat_Int, implies_true, zy2, aFn, List.contains, List.elem, zq3, zy1, zq2, sub, zx3, zw2, zw3, zy3, gd, zq1, zw0, zq0, zx0, zx2, zx1, zy0, zw1, List.range', ↓reduceIte, reduceCtorEq, Nat.reduceEqDiff, Nat.reduceAdd, Nat.reduceLeDiff, Nat.reduceMul, Nat.reduceLT, Nat.reduceBEq, Int.reduceEq, tf_Gs7_38])
        | (refine zx4 (fun h => ?_) (fun h => ?_))
        | (refine zq4 (fun h => ?_) (fun h => ?_)))
      all_goals first
        | (refine hfin false ?_ (by intro h; cases h); rw [show ownOk 2 n s ts.length = false by first | (simp only [ownOk, *, show decide ((2 : Int) = 1) = false from rfl, show decide ((2 : Int) = 2) = true from rfl, show decide ((1 : Int) = 1) = true from rfl, cond_true, cond_false, Bool.not_true, Bool.not_false, Bool.false_and, Bool.and_false, Bool.true_and]; done) | (simp_all [ownOk]; done) | (simp_all [ownOk]; intro a e; have := h a; omega)]; simp; done)
        | (refine hfin _ ?_ (fun h => List.eq_nil_of_length_eq_zero (by simpa using h)); rw [← hleaf true (fun h => by simp_all [ownOk]) (fun h => by simp [ownOk, h])]; simp; done)
    simp only [decide_eq_false_iff_not] at hk2
    simp -implicitDefEqProofs only [evE, ↓evZ2, ↓evZ3, ↓Int.cast_ofNat_Int, implies_true, zy2, aFn, List.contains, List.elem, zq3, zy1, zq2, sub, zx3, zw2, zw3, zy3, gd, zq1, zw0, zq0, zx0, zx2, zx1, zy0, zw1, List.range', ↓reduceIte, reduceCtorEq, Nat.reduceEqDiff, Nat.reduceAdd, Nat.reduceLeDiff, Nat.reduceMul, Nat.reduceLT, Nat.reduceBEq, Int.reduceEq, tf_Gs7_38]
    refine zq4 (fun hk3 => ?_) (fun hk3 => ?_)
    case refine_2 =>
      simp only [decide_eq_false_iff_not] at hk3
      simp -implicitDefEqProofs only [evE, ↓evZ2, ↓evZ3, ↓Int.cast_ofNat_Int, implies_true, zy2, aFn, List.contains, List.elem, zq3, zy1, zq2, sub, zx3, zw2, zw3, zy3, gd, zq1, zw0, zq0, zx0, zx2, zx1, zy0, zw1, List.range', ↓reduceIte, reduceCtorEq, Nat.reduceEqDiff, Nat.reduceAdd, Nat.reduceLeDiff, Nat.reduceMul, Nat.reduceLT, Nat.reduceBEq, Int.reduceEq, tf_Gs7_38]
      refine hfin false ?_ (by intro h; cases h)
      rw [show ownOk k n s ts.length = false by simp [ownOk, hk1, hk2, hk3]]
      simp
    simp only [decide_eq_true_eq] at hk3
    subst hk3
    have hk' := fun st hb => hk st hb (by omega) (by omega)
    clear hk
    repeat' (first
      | (simp -implicitDefEqProofs only [*, evE, ↓evZ2, ↓evZ3, ↓Int.cast_ofNat_Int, implies_true, zy2, aFn, List.contains, List.elem, zq3, zy1, zq2, sub, zx3, zw2, zw3, zy3, gd, zq1, zw0, zq0, zx0, zx2, zx1, zy0, zw1, List.range', ↓reduceIte, reduceCtorEq, Nat.reduceEqDiff, Nat.reduceAdd, Nat.reduceLeDiff, Nat.reduceMul, Nat.reduceLT, Nat.reduceBEq, Int.reduceEq, tf_Gs7_38])
      | (refine zx4 (fun h => ?_) (fun h => ?_))
      | (refine (c_impl_NameValid s _).to ?_)
      | (refine zq4 (fun h => ?_) (fun h => ?_)))
    all_goals first
      | (refine hfin false ?_ (by intro h; cases h); rw [show ownOk 3 n s ts.length = false by (simp_all [ownOk]; done)]; simp; done)
      | skip
    refine (hk' _ (zy7.upd_same _ _ _)).mono ?_
    rintro _ _ ⟨c', rfl, rfl, hc'⟩
    simp -implicitDefEqProofs only [zy7.upd_upd, evE, ↓evZ2, ↓evZ3, ↓Int.cast_ofNat_Int, implies_true, zy2, aFn, List.contains, List.elem, zq3, zy1, zq2, sub, zx3, zw2, zw3, zy3, gd, zq1, zw0, zq0, zx0, zx2, zx1, zy0, zw1, List.range', ↓reduceIte, reduceCtorEq, Nat.reduceEqDiff, Nat.reduceAdd, Nat.reduceLeDiff, Nat.reduceMul, Nat.reduceLT, Nat.reduceBEq, Int.reduceEq, tf_Gs7_38]
    have ho : ownOk 3 n s ts.length = true := by simp_all [ownOk]
    rw [ho, show c + ((1 + sumL Tm.nodes ts : Nat) : Int) = c + 1 + (sumL Tm.nodes ts : Int) by omega]
    simp only [Bool.true_and, Bool.not_not]
    first | exact ⟨c', trivial, rfl, hc'⟩ | exact ⟨c', rfl, rfl, hc'⟩
termination_by t => SizeOf.sizeOf t
decreasing_by have := List.sizeOf_lt_of_mem hx; simp only [Tm.mk.sizeOf_spec]; omega
end Go.AW


namespace Go.AW
open Go.Proofs.Try
set_option linter.unusedSimpArgs false
set_option maxRecDepth 100000
abbrev tf_Gs8_12 := And.intro tI_2 (And.intro zI_2 (And.intro underlying2 (And.intro tI_3 (And.intro zI_3 (And.intro underlying3 (And.intro tI_4 (And.intro zI_4 (And.intro underlying4 (And.intro tI_5 (And.intro zI_5 (And.intro underlying5 (And.intro tI_6 (And.intro zI_6 (And.intro underlying6 (And.intro tI_25 (And.intro zI_25 (And.intro fI_25_0 (And.intro fI_25_1 (And.intro fI_25_2 (And.intro fI_25_3 (And.intro bI_25 (And.intro tI_67 zI_67))))))))))))))))))))))
theorem c_impl_TermValid (t : Tm) (st : zy7) : zq7 prog 12 [t.av] st (fun r st' => r = .bool t.valid ∧ st' = st) := by
  have hd : zq7 prog 12 [t.av] st (fun r st' => Drops st' st ∧ r = .bool t.valid) := by
    refine zw6 [] func12 ntmps12 rfl rfl (by kernel_rfl) (by decide +kernel) (by show 1 ≤ _; decide +kernel) ?_
    intro _
    simp -implicitDefEqProofs only [Tm.av_junk, Tm.av_agg, Tm.av_width, evE, ↓evZ2, ↓evZ3, ↓Int.cast_ofNat_Int, implies_true, zy2, aFn, List.contains, List.elem, zq3, zy1, zq2, sub, zx3, zw2, zw3, zy3, gd, zq1, zw0, zq0, zx0, zx2, zx1, zy0, zw1, List.range', ↓reduceIte, reduceCtorEq, Nat.reduceEqDiff, Nat.reduceAdd, Nat.reduceLeDiff, Nat.reduceMul, Nat.reduceLT, Nat.reduceBEq, Int.reduceEq, tf_Gs8_12]
    intro b hb
    simp -implicitDefEqProofs only [zy4, zy7.upd_upd, Tm.av_junk, Tm.av_agg, Tm.av_width, evE, ↓evZ2, ↓evZ3, ↓Int.cast_ofNat_Int, implies_true, zy2, aFn, List.contains, List.elem, zq3, zy1, zq2, sub, zx3, zw2, zw3, zy3, gd, zq1, zw0, zq0, zx0, zx2, zx1, zy0, zw1, List.range', ↓reduceIte, reduceCtorEq, Nat.reduceEqDiff, Nat.reduceAdd, Nat.reduceLeDiff, Nat.reduceMul, Nat.reduceLT, Nat.reduceBEq, Int.reduceEq, tf_Gs8_12]
    refine (c_scan t 1 0 b _ (zy7.upd_same _ _ _) (by omega) (by omega) (by omega) (by omega)).mono ?_
    rintro _ _ ⟨c', rfl, rfl, _⟩
    simp -implicitDefEqProofs only [zy7.upd_upd, evE, ↓evZ2, ↓evZ3, ↓Int.cast_ofNat_Int, implies_true, zy2, aFn, List.contains, List.elem, zq3, zy1, zq2, sub, zx3, zw2, zw3, zy3, gd, zq1, zw0, zq0, zx0, zx2, zx1, zy0, zw1, List.range', ↓reduceIte, reduceCtorEq, Nat.reduceEqDiff, Nat.reduceAdd, Nat.reduceLeDiff, Nat.reduceMul, Nat.reduceLT, Nat.reduceBEq, Int.reduceEq, tf_Gs8_12]
    refine ⟨(Drops.refl st).upd hb, ?_⟩
    simp only [Tm.valid, AV.bool.injEq]
    rw [Bool.and_comm, show (31 : Int) - 1 = 30 from rfl]
    congr 1
    simp only [decide_eq_decide]
    omega
  exact hd.drop
end Go.AW


namespace Go.AW
open Go.Proofs.Try
set_option linter.unusedSimpArgs false
set_option maxRecDepth 100000
theorem any_not_all {α : Type} (p : α → Bool) : ∀ l : List α, (!(l.any fun x => !p x)) = l.all p
  | [] => rfl
  | x :: l => by rw [List.any_cons, List.all_cons, ← any_not_all p l]; cases p x <;> simp
end Go.AW


namespace Go.AW
open Go.Proofs.Try
set_option linter.unusedSimpArgs false
set_option maxRecDepth 100000
abbrev tf_V6_27 := And.intro tI_2 (And.intro zI_2 (And.intro underlying2 (And.intro tI_3 (And.intro zI_3 (And.intro underlying3 (And.intro tI_4 (And.intro zI_4 (And.intro underlying4 (And.intro tI_5 (And.intro zI_5 (And.intro underlying5 (And.intro tI_6 (And.intro zI_6 (And.intro underlying6 (And.intro tI_7 (And.intro zI_7 (And.intro fI_7_0 (And.intro fI_7_1 (And.intro fI_7_2 (And.intro fI_7_3 (And.intro bI_7 (And.intro tI_8 (And.intro zI_8 (And.intro fI_8_0 (And.intro fI_8_1 (And.intro fI_8_2 (And.intro fI_8_3 (And.intro bI_8 (And.intro tI_11 (And.intro zI_11 (And.intro underlying11 (And.intro tI_15 (And.intro zI_15 (And.intro tI_16 (And.intro zI_16 (And.intro tI_18 (And.intro zI_18 (And.intro fI_18_0 (And.intro bI_18 (And.intro tI_19 (And.intro zI_19 (And.intro fI_19_0 (And.intro bI_19 (And.intro tI_27 (And.intro zI_27 (And.intro eI_27 (And.intro eB_27 (And.intro eZ_27 (And.intro underlying27 (And.intro tI_49 (And.intro zI_49 (And.intro fI_49_0 (And.intro fI_49_1 (And.intro bI_49 (And.intro tI_108 (And.intro zI_108 (And.intro underlying108 (And.intro tI_109 (And.intro zI_109 underlying109)))))))))))))))))))))))))))))))))))))))))))))))))))))))))))
theorem c_IndexFuncBd (l : List Bd) (g : FuncId) (caps : List AV) (p : Bd → Bool) (st : zy7) (hc : ∀ x ∈ l, zq7 prog g ([bdAv x] ++ caps) st (fun r st' => r = .bool (p x) ∧ st' = st)) :
    zq7 prog 27 [.slice (l.map bdAv), .func g caps] st (fun r st' => r = .int .i64 (idxP p l 0) ∧ st' = st) := by
  refine zw6 [1000000] func27 ntmps27 rfl rfl (by kernel_rfl) (by decide +kernel) (by show 2 ≤ _; decide +kernel) ?_
  simp only [fitsL, AV.fits, and_true, List.length_map]
  intro ⟨hl, _⟩
  simp -implicitDefEqProofs only [List.length_map, evE, ↓evZ2, ↓evZ3, ↓Int.cast_ofNat_Int, implies_true, zy2, aFn, List.contains, List.elem, zq3, zy1, zq2, sub, zx3, zw2, zw3, zy3, gd, zq1, zw0, zq0, zx0, zx2, zx1, zy0, zw1, List.range', ↓reduceIte, reduceCtorEq, Nat.reduceEqDiff, Nat.reduceAdd, Nat.reduceLeDiff, Nat.reduceMul, Nat.reduceLT, Nat.reduceBEq, Int.reduceEq, tf_V6_27]
  refine zy5 (σ := Unit) [1000000] [0, 1, 7] l (fun i _ => idxP p (l.drop i) i = idxP p l 0) (fun i _ => [(8, .int .i64 i)]) (fun _ _ => st) (by decide +kernel) ⟨(), rfl, zx7.mk (by simp -implicitDefEqProofs only [evE, ↓evZ2, ↓evZ3, ↓Int.cast_ofNat_Int, implies_true, zy2, aFn, List.contains, List.elem, zq3, zy1, zq2, sub, zx3, zw2, zw3, zy3, gd, zq1, zw0, zq0, zx0, zx2, zx1, zy0, zw1, List.range', ↓reduceIte, reduceCtorEq, Nat.reduceEqDiff, Nat.reduceAdd, Nat.reduceLeDiff, Nat.reduceMul, Nat.reduceLT, Nat.reduceBEq, Int.reduceEq, tf_V6_27])⟩ (fun i x _ hx hlt hlt' hdr hinv => ?_) (fun _ hge hinv => ?_)
  case refine_2 =>
    simp -implicitDefEqProofs only [List.length_map, hge, evE, ↓evZ2, ↓evZ3, ↓Int.cast_ofNat_Int, implies_true, zy2, aFn, List.contains, List.elem, zq3, zy1, zq2, sub, zx3, zw2, zw3, zy3, gd, zq1, zw0, zq0, zx0, zx2, zx1, zy0, zw1, List.range', ↓reduceIte, reduceCtorEq, Nat.reduceEqDiff, Nat.reduceAdd, Nat.reduceLeDiff, Nat.reduceMul, Nat.reduceLT, Nat.reduceBEq, Int.reduceEq, tf_V6_27]
    rw [← hinv, List.drop_length]
    rfl
  rw [hdr, idxP] at hinv
  have hw := wrap64 (n := (i : Int) + 1) (by omega) (by omega)
  simp -implicitDefEqProofs only [List.length_map, hlt', ev_at (av := bdAv) eI_27 hx (bdAv_width x), bdAv_agg, bdAv_width, evE, ↓evZ2, ↓evZ3, ↓Int.cast_ofNat_Int, implies_true, zy2, aFn, List.contains, List.elem, zq3, zy1, zq2, sub, zx3, zw2, zw3, zy3, gd, zq1, zw0, zq0, zx0, zx2, zx1, zy0, zw1, List.range', ↓reduceIte, reduceCtorEq, Nat.reduceEqDiff, Nat.reduceAdd, Nat.reduceLeDiff, Nat.reduceMul, Nat.reduceLT, Nat.reduceBEq, Int.reduceEq, tf_V6_27]
  refine (hc x (List.mem_of_getElem? hx)).to ?_
  simp -implicitDefEqProofs only [evE, ↓evZ2, ↓evZ3, ↓Int.cast_ofNat_Int, implies_true, zy2, aFn, List.contains, List.elem, zq3, zy1, zq2, sub, zx3, zw2, zw3, zy3, gd, zq1, zw0, zq0, zx0, zx2, zx1, zy0, zw1, List.range', ↓reduceIte, reduceCtorEq, Nat.reduceEqDiff, Nat.reduceAdd, Nat.reduceLeDiff, Nat.reduceMul, Nat.reduceLT, Nat.reduceBEq, Int.reduceEq, tf_V6_27]
  refine zq4 (fun h => ?_) (fun h => ?_)
  · rw [if_pos h] at hinv
    simp -implicitDefEqProofs only [hinv, evE, ↓evZ2, ↓evZ3, ↓Int.cast_ofNat_Int, implies_true, zy2, aFn, List.contains, List.elem, zq3, zy1, zq2, sub, zx3, zw2, zw3, zy3, gd, zq1, zw0, zq0, zx0, zx2, zx1, zy0, zw1, List.range', ↓reduceIte, reduceCtorEq, Nat.reduceEqDiff, Nat.reduceAdd, Nat.reduceLeDiff, Nat.reduceMul, Nat.reduceLT, Nat.reduceBEq, Int.reduceEq, tf_V6_27]
  · rw [if_neg (by simp [h])] at hinv
    simp -implicitDefEqProofs only [evE, ↓evZ2, ↓evZ3, ↓Int.cast_ofNat_Int, implies_true, zy2, aFn, List.contains, List.elem, zq3, zy1, zq2, sub, zx3, zw2, zw3, zy3, gd, zq1, zw0, zq0, zx0, zx2, zx1, zy0, zw1, List.range', ↓reduceIte, reduceCtorEq, Nat.reduceEqDiff, Nat.reduceAdd, Nat.reduceLeDiff, Nat.reduceMul, Nat.reduceLT, Nat.reduceBEq, Int.reduceEq, tf_V6_27]
    exact ⟨(), by rw [← hinv], zx7.mk (by simp -implicitDefEqProofs only [hw, evE, ↓evZ2, ↓evZ3, ↓Int.cast_ofNat_Int, implies_true, zy2, aFn, List.contains, List.elem, zq3, zy1, zq2, sub, zx3, zw2, zw3, zy3, gd, zq1, zw0, zq0, zx0, zx2, zx1, zy0, zw1, List.range', ↓reduceIte, reduceCtorEq, Nat.reduceEqDiff, Nat.reduceAdd, Nat.reduceLeDiff, Nat.reduceMul, Nat.reduceLT, Nat.reduceBEq, Int.reduceEq, tf_V6_27])⟩
abbrev tf_V6_22 := And.intro tI_3 (And.intro zI_3 (And.intro underlying3 (And.intro tI_4 (And.intro zI_4 (And.intro underlying4 (And.intro tI_5 (And.intro zI_5 (And.intro underlying5 (And.intro tI_6 (And.intro zI_6 (And.intro underlying6 (And.intro tI_7 (And.intro zI_7 (And.intro fI_7_0 (And.intro fI_7_1 (And.intro fI_7_2 (And.intro fI_7_3 (And.intro bI_7 (And.intro tI_9 (And.intro zI_9 (And.intro underlying9 (And.intro tI_27 (And.intro zI_27 (And.intro eI_27 (And.intro eB_27 (And.intro eZ_27 underlying27))))))))))))))))))))))))))
theorem c_ContainsFuncBd (l : List Bd) (g : FuncId) (caps : List AV) (p : Bd → Bool) (st : zy7) (hc : ∀ x ∈ l, zq7 prog g ([bdAv x] ++ caps) st (fun r st' => r = .bool (p x) ∧ st' = st)) :
    zq7 prog 22 [.slice (l.map bdAv), .func g caps] st (fun r st' => r = .bool (l.any p) ∧ st' = st) := by
  refine zw6 [1000000] func22 ntmps22 rfl rfl (by kernel_rfl) (by decide +kernel) (by show 2 ≤ _; decide +kernel) ?_
  intro _
  simp -implicitDefEqProofs only [evE, ↓evZ2, ↓evZ3, ↓Int.cast_ofNat_Int, implies_true, zy2, aFn, List.contains, List.elem, zq3, zy1, zq2, sub, zx3, zw2, zw3, zy3, gd, zq1, zw0, zq0, zx0, zx2, zx1, zy0, zw1, List.range', ↓reduceIte, reduceCtorEq, Nat.reduceEqDiff, Nat.reduceAdd, Nat.reduceLeDiff, Nat.reduceMul, Nat.reduceLT, Nat.reduceBEq, Int.reduceEq, tf_V6_22]
  refine (c_IndexFuncBd l g caps p st hc).to ?_
  simp -implicitDefEqProofs only [idxP_any, evE, ↓evZ2, ↓evZ3, ↓Int.cast_ofNat_Int, implies_true, zy2, aFn, List.contains, List.elem, zq3, zy1, zq2, sub, zx3, zw2, zw3, zy3, gd, zq1, zw0, zq0, zx0, zx2, zx1, zy0, zw1, List.range', ↓reduceIte, reduceCtorEq, Nat.reduceEqDiff, Nat.reduceAdd, Nat.reduceLeDiff, Nat.reduceMul, Nat.reduceLT, Nat.reduceBEq, Int.reduceEq, tf_V6_22]
abbrev tf_V6_29 := And.intro tI_2 (And.intro zI_2 (And.intro underlying2 (And.intro tI_3 (And.intro zI_3 (And.intro underlying3 (And.intro tI_5 (And.intro zI_5 (And.intro underlying5 (And.intro tI_25 (And.intro zI_25 (And.intro fI_25_0 (And.intro fI_25_1 (And.intro fI_25_2 (And.intro fI_25_3 bI_25))))))))))))))
theorem c_variable (n : Int) (st : zy7) : zq7 prog 29 [.int .i64 n] st (fun r st' => r = (vr n).av ∧ st' = st) := by
  refine zq7.done ?_
  refine zw6 [1000000] func29 ntmps29 rfl rfl (by kernel_rfl) (by decide +kernel) (by show 1 ≤ _; decide +kernel) ?_
  intro _
  simp -implicitDefEqProofs only [evE, ↓evZ2, ↓evZ3, ↓Int.cast_ofNat_Int, implies_true, zy2, aFn, List.contains, List.elem, zq3, zy1, zq2, sub, zx3, zw2, zw3, zy3, gd, zq1, zw0, zq0, zx0, zx2, zx1, zy0, zw1, List.range', ↓reduceIte, reduceCtorEq, Nat.reduceEqDiff, Nat.reduceAdd, Nat.reduceLeDiff, Nat.reduceMul, Nat.reduceLT, Nat.reduceBEq, Int.reduceEq, tf_V6_29]
  intro b hb
  simp -implicitDefEqProofs only [zy4, evE, ↓evZ2, ↓evZ3, ↓Int.cast_ofNat_Int, implies_true, zy2, aFn, List.contains, List.elem, zq3, zy1, zq2, sub, zx3, zw2, zw3, zy3, gd, zq1, zw0, zq0, zx0, zx2, zx1, zy0, zw1, List.range', ↓reduceIte, reduceCtorEq, Nat.reduceEqDiff, Nat.reduceAdd, Nat.reduceLeDiff, Nat.reduceMul, Nat.reduceLT, Nat.reduceBEq, Int.reduceEq, tf_V6_29]
  exact ⟨by simp only [vr, Tm.av_mk, soft_agg, soft_tup, soft_int, soft_bool, soft_str, soft_slice, soft_fslice, soft_ptr, soft_pptr, soft_map, soft_mslice, Tm.soft, List.map_cons, List.map_nil, List.map_nil], (Drops.refl _).upd hb⟩
abbrev tf_V6_28 := And.intro tI_2 (And.intro zI_2 (And.intro underlying2 (And.intro tI_3 (And.intro zI_3 (And.intro underlying3 (And.intro tI_4 (And.intro zI_4 (And.intro underlying4 (And.intro tI_8 (And.intro zI_8 (And.intro fI_8_0 (And.intro fI_8_1 (And.intro fI_8_2 (And.intro fI_8_3 (And.intro bI_8 (And.intro tI_49 (And.intro zI_49 (And.intro fI_49_0 (And.intro fI_49_1 bI_49)))))))))))))))))))
theorem c_ApplyBinds_2_1 (b : Bd) (n : Int) (st : zy7) : zq7 prog 28 [bdAv b, .pptr (.int .i64 n)] st (fun r st' => r = .bool (decide (b.1 = n)) ∧ st' = st) := by
  refine zw6 [1000000] func28 ntmps28 rfl rfl (by kernel_rfl) (by decide +kernel) (by show 2 ≤ _; decide +kernel) ?_
  intro _
  unfold bdAv
  simp -implicitDefEqProofs only [evE, ↓evZ2, ↓evZ3, ↓Int.cast_ofNat_Int, implies_true, zy2, aFn, List.contains, List.elem, zq3, zy1, zq2, sub, zx3, zw2, zw3, zy3, gd, zq1, zw0, zq0, zx0, zx2, zx1, zy0, zw1, List.range', ↓reduceIte, reduceCtorEq, Nat.reduceEqDiff, Nat.reduceAdd, Nat.reduceLeDiff, Nat.reduceMul, Nat.reduceLT, Nat.reduceBEq, Int.reduceEq, tf_V6_28]
abbrev tf_V6_26 := And.intro tI_2 (And.intro zI_2 (And.intro underlying2 (And.intro tI_3 (And.intro zI_3 (And.intro underlying3 (And.intro tI_4 (And.intro zI_4 (And.intro underlying4 (And.intro tI_5 (And.intro zI_5 (And.intro underlying5 (And.intro tI_6 (And.intro zI_6 (And.intro underlying6 (And.intro tI_7 (And.intro zI_7 (And.intro fI_7_0 (And.intro fI_7_1 (And.intro fI_7_2 (And.intro fI_7_3 (And.intro bI_7 (And.intro tI_10 (And.intro zI_10 (And.intro underlying10 (And.intro tI_11 (And.intro zI_11 (And.intro underlying11 (And.intro tI_17 (And.intro zI_17 (And.intro tI_25 (And.intro zI_25 (And.intro fI_25_0 (And.intro fI_25_1 (And.intro fI_25_2 (And.intro fI_25_3 (And.intro bI_25 (And.intro tI_27 (And.intro zI_27 (And.intro eI_27 (And.intro eB_27 (And.intro eZ_27 (And.intro underlying27 (And.intro tI_49 (And.intro zI_49 (And.intro fI_49_0 (And.intro fI_49_1 bI_49))))))))))))))))))))))))))))))))))))))))))))))
theorem c_ApplyBinds_2 (bs : List Bd) (n : Int) (st : zy7) : zq7 prog 26 [.int .i64 n, .pptr (.slice (bs.map bdAv))] st (fun r st' => r = (subB bs n).av ∧ st' = st) := by
  refine zq7.done ?_
  refine zw6 [1000000] func26 ntmps26 rfl rfl (by kernel_rfl) (by decide +kernel) (by show 2 ≤ _; decide +kernel) ?_
  intro _
  simp -implicitDefEqProofs only [evE, ↓evZ2, ↓evZ3, ↓Int.cast_ofNat_Int, implies_true, zy2, aFn, List.contains, List.elem, zq3, zy1, zq2, sub, zx3, zw2, zw3, zy3, gd, zq1, zw0, zq0, zx0, zx2, zx1, zy0, zw1, List.range', ↓reduceIte, reduceCtorEq, Nat.reduceEqDiff, Nat.reduceAdd, Nat.reduceLeDiff, Nat.reduceMul, Nat.reduceLT, Nat.reduceBEq, Int.reduceEq, tf_V6_26]
  intro b hb
  refine (c_IndexFuncBd bs _ _ (fun b => decide (b.1 = n)) _ fun x _ => c_ApplyBinds_2_1 x n _).to ?_
  rcases findB_idx bs n with ⟨h1, h2⟩ | ⟨j, x, h1, h2, h3⟩
  · rw [h1]
    simp -implicitDefEqProofs only [show decide ((-1 : Int) < 0) = true from rfl, evE, ↓evZ2, ↓evZ3, ↓Int.cast_ofNat_Int, implies_true, zy2, aFn, List.contains, List.elem, zq3, zy1, zq2, sub, zx3, zw2, zw3, zy3, gd, zq1, zw0, zq0, zx0, zx2, zx1, zy0, zw1, List.range', ↓reduceIte, reduceCtorEq, Nat.reduceEqDiff, Nat.reduceAdd, Nat.reduceLeDiff, Nat.reduceMul, Nat.reduceLT, Nat.reduceBEq, Int.reduceEq, tf_V6_26]
    refine (c_variable n _).to ?_
    simp -implicitDefEqProofs only [evE, ↓evZ2, ↓evZ3, ↓Int.cast_ofNat_Int, implies_true, zy2, aFn, List.contains, List.elem, zq3, zy1, zq2, sub, zx3, zw2, zw3, zy3, gd, zq1, zw0, zq0, zx0, zx2, zx1, zy0, zw1, List.range', ↓reduceIte, reduceCtorEq, Nat.reduceEqDiff, Nat.reduceAdd, Nat.reduceLeDiff, Nat.reduceMul, Nat.reduceLT, Nat.reduceBEq, Int.reduceEq, tf_V6_26]
    exact ⟨by rw [Tm.soft, subB, h2]; rfl, (Drops.refl _).upd hb⟩
  · rw [h1]
    have hbd : ∀ x : Bd, bdAv x = .agg (.int .i64 x.1 :: x.2.av.cells) := fun _ => rfl
    simp -implicitDefEqProofs only [show decide ((j : Int) < 0) = false by simp, ev_at (av := bdAv) eI_27 h2 (bdAv_width x), hbd, bdAv_width x, evE, ↓evZ2, ↓evZ3, ↓Int.cast_ofNat_Int, implies_true, zy2, aFn, List.contains, List.elem, zq3, zy1, zq2, sub, zx3, zw2, zw3, zy3, gd, zq1, zw0, zq0, zx0, zx2, zx1, zy0, zw1, List.range', ↓reduceIte, reduceCtorEq, Nat.reduceEqDiff, Nat.reduceAdd, Nat.reduceLeDiff, Nat.reduceMul, Nat.reduceLT, Nat.reduceBEq, Int.reduceEq, tf_V6_26]
    exact ⟨by rw [Tm.soft, subB, h3]; rfl, (Drops.refl _).upd hb⟩
abbrev tf_V6_23 := And.intro tI_3 (And.intro zI_3 (And.intro underlying3 (And.intro tI_4 (And.intro zI_4 (And.intro underlying4 (And.intro tI_5 (And.intro zI_5 (And.intro underlying5 (And.intro tI_7 (And.intro zI_7 (And.intro fI_7_0 (And.intro fI_7_1 (And.intro fI_7_2 (And.intro fI_7_3 (And.intro bI_7 (And.intro tI_12 (And.intro zI_12 (And.intro underlying12 (And.intro tI_25 (And.intro zI_25 (And.intro fI_25_0 (And.intro fI_25_1 (And.intro fI_25_2 (And.intro fI_25_3 (And.intro bI_25 (And.intro tI_49 (And.intro zI_49 (And.intro fI_49_0 (And.intro fI_49_1 bI_49)))))))))))))))))))))))))))))
theorem c_ApplyBinds_1 (b : Bd) (st : zy7) : zq7 prog 23 [bdAv b] st (fun r st' => r = .bool (!b.2.valid) ∧ st' = st) := by
  refine zw6 [1000000] func23 ntmps23 rfl rfl (by kernel_rfl) (by decide +kernel) (by show 1 ≤ _; decide +kernel) ?_
  intro _
  unfold bdAv
  simp -implicitDefEqProofs only [evE, ↓evZ2, ↓evZ3, ↓Int.cast_ofNat_Int, implies_true, zy2, aFn, List.contains, List.elem, zq3, zy1, zq2, sub, zx3, zw2, zw3, zy3, gd, zq1, zw0, zq0, zx0, zx2, zx1, zy0, zw1, List.range', ↓reduceIte, reduceCtorEq, Nat.reduceEqDiff, Nat.reduceAdd, Nat.reduceLeDiff, Nat.reduceMul, Nat.reduceLT, Nat.reduceBEq, Int.reduceEq, tf_V6_23]
  refine (c_impl_TermValid b.2 st).to ?_
  simp -implicitDefEqProofs only [evE, ↓evZ2, ↓evZ3, ↓Int.cast_ofNat_Int, implies_true, zy2, aFn, List.contains, List.elem, zq3, zy1, zq2, sub, zx3, zw2, zw3, zy3, gd, zq1, zw0, zq0, zx0, zx2, zx1, zy0, zw1, List.range', ↓reduceIte, reduceCtorEq, Nat.reduceEqDiff, Nat.reduceAdd, Nat.reduceLeDiff, Nat.reduceMul, Nat.reduceLT, Nat.reduceBEq, Int.reduceEq, tf_V6_23]
abbrev tf_V6_25 := And.intro tI_2 (And.intro zI_2 (And.intro underlying2 (And.intro tI_3 (And.intro zI_3 (And.intro underlying3 (And.intro tI_4 (And.intro zI_4 (And.intro underlying4 (And.intro tI_5 (And.intro zI_5 (And.intro underlying5 (And.intro tI_6 (And.intro zI_6 (And.intro underlying6 (And.intro tI_7 (And.intro zI_7 (And.intro fI_7_0 (And.intro fI_7_1 (And.intro fI_7_2 (And.intro fI_7_3 (And.intro bI_7 (And.intro tI_8 (And.intro zI_8 (And.intro fI_8_0 (And.intro fI_8_1 (And.intro fI_8_2 (And.intro fI_8_3 (And.intro bI_8 (And.intro tI_9 (And.intro zI_9 (And.intro underlying9 (And.intro tI_10 (And.intro zI_10 (And.intro underlying10 (And.intro tI_11 (And.intro zI_11 (And.intro underlying11 (And.intro tI_13 (And.intro zI_13 (And.intro fI_13_0 (And.intro fI_13_1 (And.intro bI_13 (And.intro tI_14 (And.intro zI_14 (And.intro fI_14_0 (And.intro fI_14_1 (And.intro bI_14 (And.intro tI_18 (And.intro zI_18 (And.intro fI_18_0 (And.intro bI_18 (And.intro tI_19 (And.intro zI_19 (And.intro fI_19_0 (And.intro bI_19 (And.intro tI_23 (And.intro zI_23 (And.intro eI_23 (And.intro eB_23 (And.intro eZ_23 (And.intro underlying23 (And.intro tI_25 (And.intro zI_25 (And.intro fI_25_0 (And.intro fI_25_1 (And.intro fI_25_2 (And.intro fI_25_3 (And.intro bI_25 (And.intro tI_27 (And.intro zI_27 (And.intro eI_27 (And.intro eB_27 (And.intro eZ_27 (And.intro underlying27 (And.intro tI_34 zI_34)))))))))))))))))))))))))))))))))))))))))))))))))))))))))))))))))))))))))))
theorem c_mapVars (f : Int → Tm) (g : FuncId) (caps : List AV) (hcap : zq1 caps = true) : ∀ (t : Tm) (st : zy7), t.small = true → (∀ n ∈ t.vl, ∀ s, zq7 prog g (.int .i64 n :: caps) s (fun r s' => r = (f n).av ∧ s' = s)) →
    zq7 prog 25 [t.av, .func g caps] st (fun r st' => r = (t.mapv f).av ∧ st' = st)
  | .mk k n s ts, st, hsm, hg => by
    obtain ⟨hlen, hsms⟩ := Tm.small_mk hsm
    have IH := fun (x : Tm) (hx : x ∈ ts) st h => c_mapVars f g caps hcap x st (hsms x hx) h
    refine zq7.drop2 (zq7.fin ?_)
    simp only [Tm.av_mk]
    refine zw6 [1000000, 2] func25 ntmps25 rfl rfl (by kernel_rfl) (by decide +kernel) (by show 2 ≤ _; decide +kernel) ?_
    simp only [fitsL, AV.fits, and_true, List.length_map]
    intro ⟨_, _, _, hl, _⟩
    simp -implicitDefEqProofs only [evE, ↓evZ2, ↓evZ3, ↓Int.cast_ofNat_Int, implies_true, zy2, aFn, List.contains, List.elem, zq3, zy1, zq2, sub, zx3, zw2, zw3, zy3, gd, zq1, zw0, zq0, zx0, zx2, zx1, zy0, zw1, List.range', ↓reduceIte, reduceCtorEq, Nat.reduceEqDiff, Nat.reduceAdd, Nat.reduceLeDiff, Nat.reduceMul, Nat.reduceLT, Nat.reduceBEq, Int.reduceEq, tf_V6_25]
    intro c hc b2 hb2
    have hne : b2 ≠ c := by rintro rfl; rw [zy7.upd_same] at hb2; cases hb2
    have hn2 : st b2 = none := by rw [zy7.upd_ne st _ hne] at hb2; exact hb2
    simp -implicitDefEqProofs only [hne, hne.symm, evE, ↓evZ2, ↓evZ3, ↓Int.cast_ofNat_Int, implies_true, zy2, aFn, List.contains, List.elem, zq3, zy1, zq2, sub, zx3, zw2, zw3, zy3, gd, zq1, zw0, zq0, zx0, zx2, zx1, zy0, zw1, List.range', ↓reduceIte, reduceCtorEq, Nat.reduceEqDiff, Nat.reduceAdd, Nat.reduceLeDiff, Nat.reduceMul, Nat.reduceLT, Nat.reduceBEq, Int.reduceEq, tf_V6_25]
    refine zq4 (fun h => ?_) (fun h => ?_)
    · simp only [decide_eq_true_eq] at h
      subst h
      simp -implicitDefEqProofs only [hne, hne.symm, evE, ↓evZ2, ↓evZ3, ↓Int.cast_ofNat_Int, implies_true, zy2, aFn, List.contains, List.elem, zq3, zy1, zq2, sub, zx3, zw2, zw3, zy3, gd, zq1, zw0, zq0, zx0, zx2, zx1, zy0, zw1, List.range', ↓reduceIte, reduceCtorEq, Nat.reduceEqDiff, Nat.reduceAdd, Nat.reduceLeDiff, Nat.reduceMul, Nat.reduceLT, Nat.reduceBEq, Int.reduceEq, tf_V6_25]
      refine (hg n (by rw [Tm.vl_var rfl]; simp) _).to ?_
      simp -implicitDefEqProofs only [hne, hne.symm, evE, ↓evZ2, ↓evZ3, ↓Int.cast_ofNat_Int, implies_true, zy2, aFn, List.contains, List.elem, zq3, zy1, zq2, sub, zx3, zw2, zw3, zy3, gd, zq1, zw0, zq0, zx0, zx2, zx1, zy0, zw1, List.range', ↓reduceIte, reduceCtorEq, Nat.reduceEqDiff, Nat.reduceAdd, Nat.reduceLeDiff, Nat.reduceMul, Nat.reduceLT, Nat.reduceBEq, Int.reduceEq, tf_V6_25]
      refine ⟨0, [], _, rfl, by simp, by simp, ⟨4, by simp⟩, by rw [Tm.fin0, Tm.mapv_var f rfl], ?_⟩
      exact ((Drops.refl _).upd hc).upd hn2
    simp only [decide_eq_false_iff_not] at h
    have hg' : ∀ x ∈ ts, ∀ v ∈ x.vl, ∀ s, zq7 prog g (.int .i64 v :: caps) s (fun r s' => r = (f v).av ∧ s' = s) := fun x hx v hv => hg v ((Tm.vl_mk h).2 ⟨x, hx, hv⟩)
    simp -implicitDefEqProofs only [hne, hne.symm, zy4, List.length_map, evE, ↓evZ2, ↓evZ3, ↓Int.cast_ofNat_Int, implies_true, zy2, aFn, List.contains, List.elem, zq3, zy1, zq2, sub, zx3, zw2, zw3, zy3, gd, zq1, zw0, zq0, zx0, zx2, zx1, zy0, zw1, List.range', ↓reduceIte, reduceCtorEq, Nat.reduceEqDiff, Nat.reduceAdd, Nat.reduceLeDiff, Nat.reduceMul, Nat.reduceLT, Nat.reduceBEq, Int.reduceEq, tf_V6_25]
    rw [zy7.upd_mid hne]
    refine zy5 (σ := Nat) [1000000] [1, 2, 4, 18, 19] ts (fun i b => (((ts.take i).map (Tm.mapv f)).map Tm.av ≠ [] → (zy7.upd (st.upd b2 (.cells [AV.int .i64 0, AV.int .i64 0, AV.str ⟨#[]⟩, AV.fslice []])) c (.cells ([AV.int .i64 k, AV.int .i64 n, AV.str s] ++ [accV 4 b (((ts.take i).map (Tm.mapv f)).map Tm.av)]))) b = none)) (fun i b => [(20, .int .i64 i)]) (fun i b => kidS (st.upd b2 (.cells [AV.int .i64 0, AV.int .i64 0, AV.str ⟨#[]⟩, AV.fslice []])) c b [AV.int .i64 k, AV.int .i64 n, AV.str s] (((ts.take i).map (Tm.mapv f)).map Tm.av)) (by decide +kernel)
      ⟨0, fun h => absurd rfl h, zx7.mk (by simp -implicitDefEqProofs only [List.length_map, evE, ↓evZ2, ↓evZ3, ↓Int.cast_ofNat_Int, implies_true, zy2, aFn, List.contains, List.elem, zq3, zy1, zq2, sub, zx3, zw2, zw3, zy3, gd, zq1, zw0, zq0, zx0, zx2, zx1, zy0, zw1, List.range', ↓reduceIte, reduceCtorEq, Nat.reduceEqDiff, Nat.reduceAdd, Nat.reduceLeDiff, Nat.reduceMul, Nat.reduceLT, Nat.reduceBEq, Int.reduceEq, tf_V6_25])⟩ (fun i x b hx hlt hlt' hdr hinv => ?_) (fun b hge hinv => ?_)
    case refine_1 =>
      have hw := wrap64 (n := (i : Int) + 1) (by omega) (by omega)
      have hlen' : (((ts.take i).map (Tm.mapv f)).map Tm.av).length = i := by simp only [List.length_map, List.length_take]; omega
      have htk : (ts.take (i + 1)).map (Tm.mapv f) = (ts.take i).map (Tm.mapv f) ++ [(Tm.mapv f) x] := by rw [List.take_add_one, hx]; simp
      have hbo := kidS_c hinv
      simp -implicitDefEqProofs only [List.length_map, hlt', ev_at (av := Tm.av) eI_23 hx (Tm.av_width x), hne, evE, ↓evZ2, ↓evZ3, ↓Int.cast_ofNat_Int, implies_true, zy2, aFn, List.contains, List.elem, zq3, zy1, zq2, sub, zx3, zw2, zw3, zy3, gd, zq1, zw0, zq0, zx0, zx2, zx1, zy0, zw1, List.range', ↓reduceIte, reduceCtorEq, Nat.reduceEqDiff, Nat.reduceAdd, Nat.reduceLeDiff, Nat.reduceMul, Nat.reduceLT, Nat.reduceBEq, Int.reduceEq, tf_V6_25]
      refine zx5 [(0, 1), (3, 1), (1, 2), (2, 2), (4, 2), (5, 1), (6, 0), (7, 1), (8, 0)] [0, 3, 1, 2, 4, 5, 7] mixed (by decide +kernel) (by decide +kernel) (by decide +kernel) ?_
      simp -implicitDefEqProofs only [ev_at (av := Tm.av) eI_23 hx (Tm.av_width x), Tm.av_agg, Tm.av_width, hbo, accV_agg, accV_width, hne, evE, ↓evZ2, ↓evZ3, ↓Int.cast_ofNat_Int, implies_true, zy2, aFn, List.contains, List.elem, zq3, zy1, zq2, sub, zx3, zw2, zw3, zy3, gd, zq1, zw0, zq0, zx0, zx2, zx1, zy0, zw1, List.range', ↓reduceIte, reduceCtorEq, Nat.reduceEqDiff, Nat.reduceAdd, Nat.reduceLeDiff, Nat.reduceMul, Nat.reduceLT, Nat.reduceBEq, Int.reduceEq, tf_V6_25]
      refine zw4 (IH x (List.mem_of_getElem? hx) _ (hg' x (List.mem_of_getElem? hx))) ?_
      simp -implicitDefEqProofs only [Tm.av_agg, Tm.av_width, Tm.av_junk, hbo, accV_agg, accV_width, hne, evE, ↓evZ2, ↓evZ3, ↓Int.cast_ofNat_Int, implies_true, zy2, aFn, List.contains, List.elem, zq3, zy1, zq2, sub, zx3, zw2, zw3, zy3, gd, zq1, zw0, zq0, zx0, zx2, zx1, zy0, zw1, List.range', ↓reduceIte, reduceCtorEq, Nat.reduceEqDiff, Nat.reduceAdd, Nat.reduceLeDiff, Nat.reduceMul, Nat.reduceLT, Nat.reduceBEq, Int.reduceEq, tf_V6_25]
      refine acc_append eI_23 eB_23 eZ_23 rfl rfl (by intro e he; simp only [List.mem_cons, List.not_mem_nil, or_false] at he; subst he; exact ⟨Tm.av_width _, Tm.av_store _⟩) (tm_widths _) hinv (by simp only [hlen', List.length_cons, List.length_nil]; omega) (by simp only [hlen', List.length_cons, List.length_nil]; omega) (fun b' hb' => ?_)
      rw [show (((ts.take i).map (Tm.mapv f)).map Tm.av) ++ [((Tm.mapv f) x).av] = ((ts.take (i + 1)).map (Tm.mapv f)).map Tm.av by rw [htk]; simp] at hb' ⊢
      obtain ⟨g1, g2, g3⟩ := kidS_set hb'
      simp only [List.cons_append, List.nil_append] at g1 g3
      simp -implicitDefEqProofs only [g3, accV_cells, accV_store, zy4, Nat.le_refl, g1, hw, evE, ↓evZ2, ↓evZ3, ↓Int.cast_ofNat_Int, implies_true, zy2, aFn, List.contains, List.elem, zq3, zy1, zq2, sub, zx3, zw2, zw3, zy3, gd, zq1, zw0, zq0, zx0, zx2, zx1, zy0, zw1, List.range', ↓reduceIte, reduceCtorEq, Nat.reduceEqDiff, Nat.reduceAdd, Nat.reduceLeDiff, Nat.reduceMul, Nat.reduceLT, Nat.reduceBEq, Int.reduceEq, tf_V6_25]
      exact ⟨b', g2, zx7.mk (by simp -implicitDefEqProofs only [evE, ↓evZ2, ↓evZ3, ↓Int.cast_ofNat_Int, implies_true, zy2, aFn, List.contains, List.elem, zq3, zy1, zq2, sub, zx3, zw2, zw3, zy3, gd, zq1, zw0, zq0, zx0, zx2, zx1, zy0, zw1, List.range', ↓reduceIte, reduceCtorEq, Nat.reduceEqDiff, Nat.reduceAdd, Nat.reduceLeDiff, Nat.reduceMul, Nat.reduceLT, Nat.reduceBEq, Int.reduceEq, tf_V6_25])⟩
    have hbo := kidS_c hinv
    rw [List.take_length] at hinv hbo ⊢
    simp -implicitDefEqProofs only [List.length_map, hge, evE, ↓evZ2, ↓evZ3, ↓Int.cast_ofNat_Int, implies_true, zy2, aFn, List.contains, List.elem, zq3, zy1, zq2, sub, zx3, zw2, zw3, zy3, gd, zq1, zw0, zq0, zx0, zx2, zx1, zy0, zw1, List.range', ↓reduceIte, reduceCtorEq, Nat.reduceEqDiff, Nat.reduceAdd, Nat.reduceLeDiff, Nat.reduceMul, Nat.reduceLT, Nat.reduceBEq, Int.reduceEq, tf_V6_25]
    simp -implicitDefEqProofs only [hbo, evE, ↓evZ2, ↓evZ3, ↓Int.cast_ofNat_Int, implies_true, zy2, aFn, List.contains, List.elem, zq3, zy1, zq2, sub, zx3, zw2, zw3, zy3, gd, zq1, zw0, zq0, zx0, zx2, zx1, zy0, zw1, List.range', ↓reduceIte, reduceCtorEq, Nat.reduceEqDiff, Nat.reduceAdd, Nat.reduceLeDiff, Nat.reduceMul, Nat.reduceLT, Nat.reduceBEq, Int.reduceEq, tf_V6_25]
    have hS : (st.upd b2 (.cells [AV.int .i64 0, AV.int .i64 0, AV.str ⟨#[]⟩, AV.fslice []])) b2 ≠ none := by rw [zy7.upd_same]; simp
    have h1 := kidS_ne hinv hS hne
    rw [zy7.upd_same] at h1
    simp -implicitDefEqProofs only [h1, accV_store, accV_cells, zy4, Nat.le_refl, evE, ↓evZ2, ↓evZ3, ↓Int.cast_ofNat_Int, implies_true, zy2, aFn, List.contains, List.elem, zq3, zy1, zq2, sub, zx3, zw2, zw3, zy3, gd, zq1, zw0, zq0, zx0, zx2, zx1, zy0, zw1, List.range', ↓reduceIte, reduceCtorEq, Nat.reduceEqDiff, Nat.reduceAdd, Nat.reduceLeDiff, Nat.reduceMul, Nat.reduceLT, Nat.reduceBEq, Int.reduceEq, tf_V6_25]
    obtain ⟨h2, h3⟩ := kidS_upd (o := .cells [AV.int .i64 k, AV.int .i64 n, AV.str s, accV 4 b ((ts.map (Tm.mapv f)).map Tm.av)]) hinv hS hne
    refine ⟨b, _, _, h2, h3, tm_junk _, ⟨4, tm_widths _⟩, ?_, ?_⟩
    · rw [Tm.mapv_mk f h]
      simp only [fin_agg, List.map_cons, List.map_nil, fin_int, fin_str, accV_fin, Tm.av_mk]
    · exact (((Drops.refl _).upd hn2).upd hc).upd hn2
termination_by t => SizeOf.sizeOf t
decreasing_by have := List.sizeOf_lt_of_mem hx; simp only [Tm.mk.sizeOf_spec]; omega
end Go.AW


namespace Go.AW
open Go.Proofs.Try
set_option linter.unusedSimpArgs false
set_option maxRecDepth 100000
def optAv : Option Tm → AV
  | some t => .tup [t.av, .bool true]
  | none => .tup [Tm.zero.av, .bool false]
end Go.AW


namespace Go.AW
open Go.Proofs.Try
set_option linter.unusedSimpArgs false
set_option maxRecDepth 100000
def appB (t : Tm) (bs : List Bd) : Option Tm :=
  if t.valid = true ∧ (bs.all fun b => b.2.valid) = true ∧ (t.mapv (subB bs)).valid = true then some (t.mapv (subB bs)) else none
theorem subB_small {bs : List Bd} (h : ∀ b ∈ bs, b.2.small = true) (n : Int) : (subB bs n).small = true := by
  unfold subB
  have : ∀ l : List Bd, (∀ b ∈ l, b.2.small = true) → ∀ x, findB l n = some x → x.small = true := by
    intro l
    induction l with
    | nil => intro _ x h; cases h
    | cons y l ih =>
      obtain ⟨m, t⟩ := y
      intro hl x h
      simp only [findB] at h
      split at h
      · cases h; exact hl (m, _) (by simp)
      · exact ih (fun b hb => hl b (by simp [hb])) x h
  cases hf : findB bs n with
  | none => rfl
  | some x => exact this bs h x hf
theorem all_small {bs : List Bd} (h : (bs.all fun b => b.2.valid) = true) : ∀ b ∈ bs, b.2.small = true := fun b hb => Tm.valid_small (List.all_eq_true.1 h b hb)
theorem optAv_soft (x : Option Tm) : (optAv x).soft = optAv x := by cases x <;> simp only [optAv, soft_tup, List.map_cons, List.map_nil, Tm.soft, soft_bool]
abbrev tf_V8_8 := And.intro tI_2 (And.intro zI_2 (And.intro underlying2 (And.intro tI_3 (And.intro zI_3 (And.intro underlying3 (And.intro tI_4 (And.intro zI_4 (And.intro underlying4 (And.intro tI_5 (And.intro zI_5 (And.intro underlying5 (And.intro tI_6 (And.intro zI_6 (And.intro underlying6 (And.intro tI_7 (And.intro zI_7 (And.intro fI_7_0 (And.intro fI_7_1 (And.intro fI_7_2 (And.intro fI_7_3 (And.intro bI_7 (And.intro tI_8 (And.intro zI_8 (And.intro fI_8_0 (And.intro fI_8_1 (And.intro fI_8_2 (And.intro fI_8_3 (And.intro bI_8 (And.intro tI_11 (And.intro zI_11 (And.intro underlying11 (And.intro tI_12 (And.intro zI_12 (And.intro underlying12 (And.intro tI_15 (And.intro zI_15 (And.intro tI_16 (And.intro zI_16 (And.intro tI_17 (And.intro zI_17 (And.intro tI_18 (And.intro zI_18 (And.intro fI_18_0 (And.intro bI_18 (And.intro tI_19 (And.intro zI_19 (And.intro fI_19_0 (And.intro bI_19 (And.intro tI_22 (And.intro zI_22 (And.intro eI_22 (And.intro eB_22 (And.intro eZ_22 (And.intro underlying22 (And.intro tI_23 (And.intro zI_23 (And.intro eI_23 (And.intro eB_23 (And.intro eZ_23 (And.intro underlying23 (And.intro tI_24 (And.intro zI_24 (And.intro fI_24_0 (And.intro fI_24_1 (And.intro fI_24_2 (And.intro fI_24_3 (And.intro bI_24 (And.intro tI_25 (And.intro zI_25 (And.intro fI_25_0 (And.intro fI_25_1 (And.intro fI_25_2 (And.intro fI_25_3 (And.intro bI_25 (And.intro tI_27 (And.intro zI_27 (And.intro eI_27 (And.intro eB_27 (And.intro eZ_27 underlying27)))))))))))))))))))))))))))))))))))))))))))))))))))))))))))))))))))))))))))))))
theorem c_impl_ApplyBinds (t : Tm) (bs : List Bd) (st : zy7) : zq7 prog 8 [t.av, .slice (bs.map bdAv)] st (fun r st' => r = optAv (appB t bs) ∧ st' = st) := by
  refine zq7.done ?_
  refine zw6 [1000000] func8 ntmps8 rfl rfl (by kernel_rfl) (by decide +kernel) (by show 2 ≤ _; decide +kernel) ?_
  intro _
  simp -implicitDefEqProofs only [zy4, evE, ↓evZ2, ↓evZ3, ↓Int.cast_ofNat_Int, implies_true, zy2, aFn, List.contains, List.elem, zq3, zy1, zq2, sub, zx3, zw2, zw3, zy3, gd, zq1, zw0, zq0, zx0, zx2, zx1, zy0, zw1, List.range', ↓reduceIte, reduceCtorEq, Nat.reduceEqDiff, Nat.reduceAdd, Nat.reduceLeDiff, Nat.reduceMul, Nat.reduceLT, Nat.reduceBEq, Int.reduceEq, tf_V8_8]
  intro b hb
  have hend : ∀ o, ((AV.tup [.agg [.int .i64 0, .int .i64 0, .str ⟨#[]⟩, .fslice []], .bool false]).soft = optAv none) ∧ Drops (st.upd b o) st := fun o => ⟨by simp only [optAv, Tm.zero, Tm.av_mk, soft_agg, soft_tup, soft_int, soft_bool, soft_str, soft_slice, soft_fslice, soft_ptr, soft_pptr, soft_map, soft_mslice, Tm.soft, List.map_cons, List.map_nil], (Drops.refl _).upd hb⟩
  refine (c_impl_TermValid t _).to ?_
  simp -implicitDefEqProofs only [zy4, evE, ↓evZ2, ↓evZ3, ↓Int.cast_ofNat_Int, implies_true, zy2, aFn, List.contains, List.elem, zq3, zy1, zq2, sub, zx3, zw2, zw3, zy3, gd, zq1, zw0, zq0, zx0, zx2, zx1, zy0, zw1, List.range', ↓reduceIte, reduceCtorEq, Nat.reduceEqDiff, Nat.reduceAdd, Nat.reduceLeDiff, Nat.reduceMul, Nat.reduceLT, Nat.reduceBEq, Int.reduceEq, tf_V8_8]
  refine zx4 (fun h => ?_) (fun h => ?_)
  case refine_2 =>
    simp only [Bool.not_false, Bool.not_eq_true'] at h
    simp -implicitDefEqProofs only [h, zy4, evE, ↓evZ2, ↓evZ3, ↓Int.cast_ofNat_Int, implies_true, zy2, aFn, List.contains, List.elem, zq3, zy1, zq2, sub, zx3, zw2, zw3, zy3, gd, zq1, zw0, zq0, zx0, zx2, zx1, zy0, zw1, List.range', ↓reduceIte, reduceCtorEq, Nat.reduceEqDiff, Nat.reduceAdd, Nat.reduceLeDiff, Nat.reduceMul, Nat.reduceLT, Nat.reduceBEq, Int.reduceEq, tf_V8_8]
    rw [appB, if_neg (by simp [h])]
    exact hend _
  simp only [Bool.not_eq_false'] at h
  simp -implicitDefEqProofs only [h, zy4, evE, ↓evZ2, ↓evZ3, ↓Int.cast_ofNat_Int, implies_true, zy2, aFn, List.contains, List.elem, zq3, zy1, zq2, sub, zx3, zw2, zw3, zy3, gd, zq1, zw0, zq0, zx0, zx2, zx1, zy0, zw1, List.range', ↓reduceIte, reduceCtorEq, Nat.reduceEqDiff, Nat.reduceAdd, Nat.reduceLeDiff, Nat.reduceMul, Nat.reduceLT, Nat.reduceBEq, Int.reduceEq, tf_V8_8]
  refine (c_ContainsFuncBd bs _ [] (fun b => !b.2.valid) _ fun x _ => c_ApplyBinds_1 x _).to ?_
  simp -implicitDefEqProofs only [h, zy4, evE, ↓evZ2, ↓evZ3, ↓Int.cast_ofNat_Int, implies_true, zy2, aFn, List.contains, List.elem, zq3, zy1, zq2, sub, zx3, zw2, zw3, zy3, gd, zq1, zw0, zq0, zx0, zx2, zx1, zy0, zw1, List.range', ↓reduceIte, reduceCtorEq, Nat.reduceEqDiff, Nat.reduceAdd, Nat.reduceLeDiff, Nat.reduceMul, Nat.reduceLT, Nat.reduceBEq, Int.reduceEq, tf_V8_8]
  refine zq4 (fun h2 => ?_) (fun h2 => ?_)
  · simp -implicitDefEqProofs only [zy4, evE, ↓evZ2, ↓evZ3, ↓Int.cast_ofNat_Int, implies_true, zy2, aFn, List.contains, List.elem, zq3, zy1, zq2, sub, zx3, zw2, zw3, zy3, gd, zq1, zw0, zq0, zx0, zx2, zx1, zy0, zw1, List.range', ↓reduceIte, reduceCtorEq, Nat.reduceEqDiff, Nat.reduceAdd, Nat.reduceLeDiff, Nat.reduceMul, Nat.reduceLT, Nat.reduceBEq, Int.reduceEq, tf_V8_8]
    rw [appB, if_neg (by rw [← any_not_all, h2]; simp)]
    exact hend _
  have hall : (bs.all fun b => b.2.valid) = true := by rw [← any_not_all, h2]; rfl
  have hsm := all_small hall
  simp -implicitDefEqProofs only [zy4, evE, ↓evZ2, ↓evZ3, ↓Int.cast_ofNat_Int, implies_true, zy2, aFn, List.contains, List.elem, zq3, zy1, zq2, sub, zx3, zw2, zw3, zy3, gd, zq1, zw0, zq0, zx0, zx2, zx1, zy0, zw1, List.range', ↓reduceIte, reduceCtorEq, Nat.reduceEqDiff, Nat.reduceAdd, Nat.reduceLeDiff, Nat.reduceMul, Nat.reduceLT, Nat.reduceBEq, Int.reduceEq, tf_V8_8]
  refine (c_mapVars (subB bs) _ [.pptr (.slice (bs.map bdAv))] rfl t _ (Tm.valid_small h) (fun n _ s => c_ApplyBinds_2 bs n s)).to ?_
  simp -implicitDefEqProofs only [zy4, evE, ↓evZ2, ↓evZ3, ↓Int.cast_ofNat_Int, implies_true, zy2, aFn, List.contains, List.elem, zq3, zy1, zq2, sub, zx3, zw2, zw3, zy3, gd, zq1, zw0, zq0, zx0, zx2, zx1, zy0, zw1, List.range', ↓reduceIte, reduceCtorEq, Nat.reduceEqDiff, Nat.reduceAdd, Nat.reduceLeDiff, Nat.reduceMul, Nat.reduceLT, Nat.reduceBEq, Int.reduceEq, tf_V8_8]
  refine (o_own (t.mapv (subB bs)) _ (Tm.mapv_small (subB_small hsm) t (Tm.valid_small h))).made.to ?_
  simp -implicitDefEqProofs only [zy4, evE, ↓evZ2, ↓evZ3, ↓Int.cast_ofNat_Int, implies_true, zy2, aFn, List.contains, List.elem, zq3, zy1, zq2, sub, zx3, zw2, zw3, zy3, gd, zq1, zw0, zq0, zx0, zx2, zx1, zy0, zw1, List.range', ↓reduceIte, reduceCtorEq, Nat.reduceEqDiff, Nat.reduceAdd, Nat.reduceLeDiff, Nat.reduceMul, Nat.reduceLT, Nat.reduceBEq, Int.reduceEq, tf_V8_8]
  refine (c_impl_TermValid _ _).to ?_
  simp -implicitDefEqProofs only [zy4, evE, ↓evZ2, ↓evZ3, ↓Int.cast_ofNat_Int, implies_true, zy2, aFn, List.contains, List.elem, zq3, zy1, zq2, sub, zx3, zw2, zw3, zy3, gd, zq1, zw0, zq0, zx0, zx2, zx1, zy0, zw1, List.range', ↓reduceIte, reduceCtorEq, Nat.reduceEqDiff, Nat.reduceAdd, Nat.reduceLeDiff, Nat.reduceMul, Nat.reduceLT, Nat.reduceBEq, Int.reduceEq, tf_V8_8]
  refine zq4 (fun h3 => ?_) (fun h3 => ?_)
  · simp -implicitDefEqProofs only [zy4, evE, ↓evZ2, ↓evZ3, ↓Int.cast_ofNat_Int, implies_true, zy2, aFn, List.contains, List.elem, zq3, zy1, zq2, sub, zx3, zw2, zw3, zy3, gd, zq1, zw0, zq0, zx0, zx2, zx1, zy0, zw1, List.range', ↓reduceIte, reduceCtorEq, Nat.reduceEqDiff, Nat.reduceAdd, Nat.reduceLeDiff, Nat.reduceMul, Nat.reduceLT, Nat.reduceBEq, Int.reduceEq, tf_V8_8]
    simp only [Bool.not_eq_true'] at h3
    rw [appB, if_neg (by simp [h3])]
    exact hend _
  · simp -implicitDefEqProofs only [zy4, evE, ↓evZ2, ↓evZ3, ↓Int.cast_ofNat_Int, implies_true, zy2, aFn, List.contains, List.elem, zq3, zy1, zq2, sub, zx3, zw2, zw3, zy3, gd, zq1, zw0, zq0, zx0, zx2, zx1, zy0, zw1, List.range', ↓reduceIte, reduceCtorEq, Nat.reduceEqDiff, Nat.reduceAdd, Nat.reduceLeDiff, Nat.reduceMul, Nat.reduceLT, Nat.reduceBEq, Int.reduceEq, tf_V8_8]
    simp only [Bool.not_eq_false'] at h3
    rw [appB, if_pos ⟨h, hall, h3⟩]
    exact ⟨optAv_soft (some _), (Drops.refl _).upd hb⟩
end Go.AW

/- Unification: it keeps the bindings good, makes the terms equal, and is most general; it comes to an end. -/
namespace Go.AW
set_option linter.unusedSimpArgs false
set_option linter.unusedVariables false
abbrev IsGood (σ : Sub) : Prop := ∃ R rk B, Good σ R rk B
theorem IsGood.rs {σ : Sub} (h : IsGood σ) : ∃ rk B, Good σ (rs σ) rk B := by
  obtain ⟨R, rk, B, G⟩ := h
  exact ⟨rk, B, by rw [G.rs]; exact G⟩
theorem IsGood.none : IsGood Sub.none := ⟨_, _, _, Good.none⟩
structure Uni (σ : Sub) (a b : List Tm) (r : Bool) (σ' : Sub) (tr : List Int) : Prop where
  good : IsGood σ'
  keep : ∀ m, m ∉ tr → σ' m = σ m
  new : ∀ m ∈ tr, σ m = none ∧ σ' m ≠ none
  nodup : tr.Nodup
  eq : r = true → a.map (Tm.mapv (rs σ')) = b.map (Tm.mapv (rs σ'))
  gen : ∀ θ, Sol θ σ → a.map (Tm.mapv θ) = b.map (Tm.mapv θ) → r = true ∧ Sol θ σ'
  same : tr = [] → σ' = σ
theorem Sol.sub {σ σ' : Sub} {θ : Int → Tm} {tr : List Int} (S : Sol θ σ') (keep : ∀ m, m ∉ tr → σ' m = σ m) (new : ∀ m ∈ tr, σ m = none ∧ σ' m ≠ none) : Sol θ σ := fun n u h => by
  by_cases hn : n ∈ tr
  · rw [(new n hn).1] at h; cases h
  · exact S n u (by rw [keep n hn]; exact h)
theorem Uni.isSol {σ σ' : Sub} {a b : List Tm} {r : Bool} {tr : List Int} (h : Uni σ a b r σ' tr) : Sol (rs σ') σ := by
  obtain ⟨rk, B, G⟩ := h.good.rs
  exact G.isSol.sub h.keep h.new
theorem Uni.stays {σ σ' : Sub} {a b : List Tm} {r : Bool} {tr : List Int} (h : Uni σ a b r σ' tr) (hg : IsGood σ) {x y : Tm} (e : x.mapv (rs σ) = y.mapv (rs σ)) : x.mapv (rs σ') = y.mapv (rs σ') := by
  obtain ⟨rk, B, G⟩ := hg.rs
  rw [← G.factorT h.isSol x, ← G.factorT h.isSol y, e]
theorem bnd_uni {σ : Sub} (hg : IsGood σ) {a b : Tm} {n : Int} (ha : a.k = 1) (han : a.n = n) (hn : σ n = none) (hb : b.k = 1 → σ b.n = none ∧ b.n ≠ n) {r : Bool} {σ' : Sub} {tr : List Int} (h : bnd σ n b = (r, σ', tr)) : Uni σ [a] [b] r σ' tr := by
  obtain ⟨rk, B, G⟩ := hg.rs
  have hav : ∀ θ, a.mapv θ = θ n := fun θ => by rw [Tm.mapv_k1 θ ha, han]
  unfold bnd at h
  split at h
  · rename_i hmem
    cases h
    refine ⟨hg, fun _ _ => rfl, fun _ h => absurd h (List.not_mem_nil), List.nodup_nil, fun h => (by cases h), fun θ S e => ?_, fun _ => rfl⟩
    exfalso
    simp only [List.map_cons, List.map_nil, List.cons.injEq, and_true] at e
    rw [hav] at e
    by_cases hbk : b.k = 1
    · rw [Tm.mapv_k1 _ hbk, G.free (hb hbk).1, vl_vr] at hmem
      simp only [List.mem_cons, List.not_mem_nil, or_false] at hmem
      exact (hb hbk).2 hmem.symm
    · rw [← G.factorT S b] at e
      have h1 : ((b.mapv (rs σ)).mapv θ) = (b.mapv (rs σ)).mapv θ := rfl
      have hk : (b.mapv (rs σ)).k ≠ 1 := by rw [Tm.mapv_k _ hbk]; exact hbk
      have := (nodes_mapv (f := θ) (b.mapv (rs σ)) hmem).2 hk
      rw [e] at this
      exact absurd this (Nat.lt_irrefl _)
  · rename_i hmem
    cases h
    obtain ⟨rk', B', G'⟩ := G.bind hn hmem
    have hR := G'.rs
    refine ⟨⟨_, _, _, G'⟩, fun m hm => ?_, fun m hm => ?_, by simp, fun _ => ?_, fun θ S e => ⟨rfl, fun m u hu => ?_⟩, fun h => (by cases h)⟩
    · simp only [List.mem_cons, List.not_mem_nil, or_false] at hm
      simp only [Sub.set, hm, if_false]
    · simp only [List.mem_cons, List.not_mem_nil, or_false] at hm
      subst hm
      exact ⟨hn, by simp [Sub.set]⟩
    · simp only [List.map_cons, List.map_nil, List.cons.injEq, and_true]
      rw [hav, hR]
      exact G'.bound (by simp [Sub.set])
    · simp only [List.map_cons, List.map_nil, List.cons.injEq, and_true] at e
      rw [hav] at e
      simp only [Sub.set] at hu
      split at hu
      · rename_i hmn
        cases hu
        rw [hmn, e]
      · exact S m u hu
theorem headEq_iff {a b : Tm} : headEq a b = true ↔ a.k = b.k ∧ a.n = b.n ∧ a.s = b.s ∧ a.ts.length = b.ts.length := by
  simp only [headEq, Bool.and_eq_true, decide_eq_true_eq, and_assoc]
theorem unisF_list (g : Nat) (ihU0 : ∀ σ a b r σ' tr, IsGood σ → uniF g σ a b = some (r, σ', tr) → Uni σ [a] [b] r σ' tr) : ∀ xs ys σ r σ' tr, IsGood σ → xs.length = ys.length → unisF g σ xs ys = some (r, σ', tr) → Uni σ xs ys r σ' tr := by
    intro xs
    have ihU := ihU0
    induction xs with
    | nil =>
      intro ys σ r σ' tr hg hl h
      cases ys with
      | cons _ _ => simp at hl
      | nil =>
        simp only [unisF, Option.some.injEq, Prod.mk.injEq] at h
        obtain ⟨rfl, rfl, rfl⟩ := h
        exact ⟨hg, fun _ _ => rfl, fun _ h => absurd h (List.not_mem_nil), List.nodup_nil, fun _ => rfl, fun θ S _ => ⟨rfl, S⟩, fun _ => rfl⟩
    | cons a xs ih =>
      intro ys σ r σ' tr hg hl h
      cases ys with
      | nil => simp at hl
      | cons b ys =>
        rw [unisF] at h
        cases h1 : uniF g σ a b with
        | none => rw [h1] at h; cases h
        | some p =>
          obtain ⟨r1, σ1, tr1⟩ := p
          have U1 := ihU σ a b r1 σ1 tr1 hg h1
          rw [h1] at h
          cases r1 with
          | false =>
            simp only [Option.some.injEq, Prod.mk.injEq] at h
            obtain ⟨rfl, rfl, rfl⟩ := h
            refine ⟨U1.good, U1.keep, U1.new, U1.nodup, fun h => (by cases h), fun θ S e => ?_, U1.same⟩
            simp only [List.map_cons, List.cons.injEq] at e
            exact U1.gen θ S (by simp [e.1])
          | true =>
            simp only at h
            cases h2 : unisF g σ1 xs ys with
            | none => rw [h2] at h; cases h
            | some p2 =>
              obtain ⟨r2, σ2, tr2⟩ := p2
              rw [h2] at h
              simp only [Option.some.injEq, Prod.mk.injEq] at h
              obtain ⟨rfl, rfl, rfl⟩ := h
              have U2 := ih ys σ1 r2 σ2 tr2 U1.good (by simpa using hl) h2
              refine ⟨U2.good, fun m hm => ?_, fun m hm => ?_, ?_, fun hr => ?_, fun θ S e => ?_, fun h => ?_⟩
              · simp only [List.mem_append, not_or] at hm
                rw [U2.keep m hm.2, U1.keep m hm.1]
              · rcases List.mem_append.1 hm with hm | hm
                · refine ⟨(U1.new m hm).1, fun h => (U1.new m hm).2 ?_⟩
                  by_cases h3 : m ∈ tr2
                  · exact (U2.new m h3).1
                  · rw [← U2.keep m h3]; exact h
                · refine ⟨?_, (U2.new m hm).2⟩
                  by_cases h3 : m ∈ tr1
                  · exact (U1.new m h3).1
                  · rw [← U1.keep m h3]; exact (U2.new m hm).1
              · rw [List.nodup_append]
                refine ⟨U1.nodup, U2.nodup, fun x hx y hy e => ?_⟩
                subst e
                exact (U1.new x hx).2 (U2.new x hy).1
              · have e1 := U1.eq rfl
                simp only [List.map_cons, List.map_nil, List.cons.injEq, and_true] at e1
                simp only [List.map_cons]
                rw [U2.stays U1.good e1, U2.eq hr]
              · simp only [List.map_cons, List.cons.injEq] at e
                obtain ⟨_, S1⟩ := U1.gen θ S (by simp [e.1])
                exact U2.gen θ S1 e.2
              · simp only [List.append_eq_nil_iff] at h
                rw [U2.same h.2, U1.same h.1]
theorem uniF_both : ∀ (g : Nat), (∀ σ a b r σ' tr, IsGood σ → uniF g σ a b = some (r, σ', tr) → Uni σ [a] [b] r σ' tr) ∧
    ∀ xs ys σ r σ' tr, IsGood σ → xs.length = ys.length → unisF g σ xs ys = some (r, σ', tr) → Uni σ xs ys r σ' tr := by
  intro g
  induction g with
  | zero =>
    have h0 : ∀ σ a b r σ' tr, IsGood σ → uniF 0 σ a b = some (r, σ', tr) → Uni σ [a] [b] r σ' tr := fun σ a b r σ' tr hg h => by simp only [uniF] at h; cases h
    exact ⟨h0, unisF_list _ h0⟩
  | succ g ih =>
    suffices hU : ∀ σ a b r σ' tr, IsGood σ → uniF (g + 1) σ a b = some (r, σ', tr) → Uni σ [a] [b] r σ' tr from ⟨hU, unisF_list _ hU⟩
    intro σ a b r σ' tr hg h
    obtain ⟨ihU, ihL⟩ := ih
    have ihL' := fun xs ys σ r σ' tr hg hl h => ihL xs ys σ r σ' tr hg hl h
    obtain ⟨rk, B, G⟩ := hg.rs
    obtain ⟨fa, wa⟩ := G.wk a
    obtain ⟨fb, wb⟩ := G.wk b
    have hma : ∀ θ, Sol θ σ → (wk σ a).mapv θ = a.mapv θ := fun θ S => wa.mapv S
    have hmb : ∀ θ, Sol θ σ → (wk σ b).mapv θ = b.mapv θ := fun θ S => wb.mapv S
    -- it suffices to speak of the walked terms
    suffices hw : Uni σ [wk σ a] [wk σ b] r σ' tr by
      refine ⟨hw.good, hw.keep, hw.new, hw.nodup, fun hr => ?_, fun θ S e => ?_, hw.same⟩
      · have := hw.eq hr
        simp only [List.map_cons, List.map_nil, List.cons.injEq, and_true] at this ⊢
        rw [← hma _ hw.isSol, ← hmb _ hw.isSol]; exact this
      · refine hw.gen θ S ?_
        simp only [List.map_cons, List.map_nil, List.cons.injEq, and_true] at e ⊢
        rw [hma θ S, hmb θ S]; exact e
    have ea := wa.end
    have eb := wb.end
    rw [uniF] at h
    generalize wk σ a = a at *
    generalize wk σ b = b at *
    split at h
    · rename_i hc
      simp only [Option.some.injEq, Prod.mk.injEq] at h
      obtain ⟨rfl, rfl, rfl⟩ := h
      have he : ∀ θ, a.mapv θ = b.mapv θ := fun θ => by rw [Tm.mapv_k1 θ hc.1, Tm.mapv_k1 θ hc.2.1, hc.2.2]
      exact ⟨hg, fun _ _ => rfl, fun _ h => absurd h (List.not_mem_nil), List.nodup_nil, fun _ => by simp [he], fun θ S _ => ⟨rfl, S⟩, fun _ => rfl⟩
    · rename_i hc
      split at h
      · rename_i ha
        exact bnd_uni hg ha rfl (ea ha) (fun hb => ⟨eb hb, fun e => hc ⟨ha, hb, e.symm⟩⟩) (Option.some.inj h)
      · rename_i ha
        split at h
        · rename_i hb
          have U := bnd_uni hg hb rfl (eb hb) (fun ha' => absurd ha' ha) (Option.some.inj h)
          exact ⟨U.good, U.keep, U.new, U.nodup, fun hr => (U.eq hr).symm, fun θ S e => U.gen θ S e.symm, U.same⟩
        · rename_i hb
          split at h
          · rename_i hh
            rw [headEq_iff] at hh
            have U := ihL' a.ts b.ts σ r σ' tr hg hh.2.2.2 h
            refine ⟨U.good, U.keep, U.new, U.nodup, fun hr => ?_, fun θ S e => ?_, U.same⟩
            · simp only [List.map_cons, List.map_nil, List.cons.injEq, and_true]
              rw [Tm.mapv_k _ ha, Tm.mapv_k _ hb, hh.1, hh.2.1, hh.2.2.1, U.eq hr]
            · simp only [List.map_cons, List.map_nil, List.cons.injEq, and_true] at e
              rw [Tm.mapv_k _ ha, Tm.mapv_k _ hb] at e
              exact U.gen θ S (by injection e)
          · rename_i hh
            simp only [Option.some.injEq, Prod.mk.injEq] at h
            obtain ⟨rfl, rfl, rfl⟩ := h
            refine ⟨hg, fun _ _ => rfl, fun _ h => absurd h (List.not_mem_nil), List.nodup_nil, fun h => (by cases h), fun θ S e => ?_, fun _ => rfl⟩
            exfalso
            simp only [List.map_cons, List.map_nil, List.cons.injEq, and_true] at e
            rw [Tm.mapv_k _ ha, Tm.mapv_k _ hb] at e
            injection e with e1 e2 e3 e4
            exact hh (headEq_iff.2 ⟨e1, e2, e3, by simpa using congrArg List.length e4⟩)
theorem uniF_uni {g : Nat} {σ : Sub} {a b : Tm} {r : Bool} {σ' : Sub} {tr : List Int} (hg : IsGood σ) (h : uniF g σ a b = some (r, σ', tr)) : Uni σ [a] [b] r σ' tr := (uniF_both g).1 σ a b r σ' tr hg h
end Go.AW

/- Unification comes to an end. -/
namespace Go.AW
set_option linter.unusedSimpArgs false
set_option linter.unusedVariables false
theorem unisF_mono (g g' : Nat) (ih : ∀ σ a b x, uniF g σ a b = some x → uniF g' σ a b = some x) : ∀ xs ys σ x, unisF g σ xs ys = some x → unisF g' σ xs ys = some x := by
  intro xs
  induction xs with
  | nil => intro ys σ x h; cases ys <;> simpa only [unisF] using h
  | cons a xs ihx =>
    intro ys σ x h
    cases ys with
    | nil => simpa only [unisF] using h
    | cons b ys =>
      rw [unisF] at h ⊢
      cases h1 : uniF g σ a b with
      | none => rw [h1] at h; cases h
      | some p =>
        rw [h1] at h
        rw [ih _ _ _ _ h1]
        obtain ⟨r1, σ1, tr1⟩ := p
        cases r1 with
        | false => exact h
        | true =>
          simp only at h ⊢
          cases h2 : unisF g σ1 xs ys with
          | none => rw [h2] at h; cases h
          | some p2 => rw [h2] at h; rw [ihx ys σ1 p2 h2]; exact h
theorem uniF_succ : ∀ (g : Nat) σ a b x, uniF g σ a b = some x → uniF (g + 1) σ a b = some x := by
  intro g
  induction g with
  | zero => intro σ a b x h; simp only [uniF] at h; cases h
  | succ g ih =>
    intro σ a b x h
    rw [uniF] at h ⊢
    split
    · rename_i hc; rw [if_pos hc] at h; exact h
    · rename_i hc
      rw [if_neg hc] at h
      split
      · rename_i hc; rw [if_pos hc] at h; exact h
      · rename_i hc
        rw [if_neg hc] at h
        split
        · rename_i hc; rw [if_pos hc] at h; exact h
        · rename_i hc
          rw [if_neg hc] at h
          split
          · rename_i hc; rw [if_pos hc] at h; exact unisF_mono g (g + 1) ih _ _ _ _ h
          · rename_i hc; rw [if_neg hc] at h; exact h
theorem uniF_le {g g' : Nat} (hle : g ≤ g') {σ : Sub} {a b : Tm} {x : Bool × Sub × List Int} (h : uniF g σ a b = some x) : uniF g' σ a b = some x := by
  induction hle with
  | refl => exact h
  | step _ ih => exact uniF_succ _ _ _ _ _ ih
theorem unisF_le {g g' : Nat} (hle : g ≤ g') {σ : Sub} {xs ys : List Tm} {x : Bool × Sub × List Int} (h : unisF g σ xs ys = some x) : unisF g' σ xs ys = some x :=
  unisF_mono g g' (fun _ _ _ _ h => uniF_le hle h) xs ys σ x h
def unb (σ : Sub) (V : List Int) : Nat := V.countP fun v => (σ v).isNone
def InV (V : List Int) (t : Tm) : Prop := ∀ v ∈ t.vl, v ∈ V
def RangeIn (V : List Int) (σ : Sub) : Prop := ∀ n u, σ n = some u → InV V u
theorem unb_lt {σ σ' : Sub} {tr : List Int} {V : List Int} (keep : ∀ m, m ∉ tr → σ' m = σ m) (new : ∀ m ∈ tr, σ m = none ∧ σ' m ≠ none) {m : Int} (hm : m ∈ tr) (hV : m ∈ V) : unb σ' V < unb σ V := by
  have mono : ∀ v, (σ' v).isNone = true → (σ v).isNone = true := fun v h => by
    by_cases hv : v ∈ tr
    · rw [(new v hv).1]; rfl
    · rw [← keep v hv]; exact h
  have le : ∀ W : List Int, unb σ' W ≤ unb σ W := fun W => List.countP_mono_left fun v _ h => mono v h
  unfold unb at *
  induction V with
  | nil => cases hV
  | cons v V ih =>
    simp only [List.countP_cons]
    have hle := le V
    rcases List.mem_cons.1 hV with rfl | hV
    · have h1 : (σ m).isNone = true := by rw [(new m hm).1]; rfl
      have h2 : (σ' m).isNone = false := by
        cases h : σ' m with
        | none => exact absurd h (new m hm).2
        | some _ => rfl
      simp only [h1, h2, if_true, Bool.false_eq_true, if_false]
      omega
    · have := ih hV
      have h3 := mono v
      by_cases h4 : (σ' v).isNone = true
      · rw [if_pos h4, if_pos (h3 h4)]; omega
      · rw [if_neg h4]; split <;> omega
theorem WkN.inV {σ : Sub} {V : List Int} (hr : RangeIn V σ) {f : Nat} {t u : Tm} (h : WkN σ f t u) (ht : InV V t) : InV V u := h.all (p := InV V) (fun n u hu => hr n u hu) ht
theorem InV.kid {V : List Int} {t x : Tm} (h : InV V t) (hk : t.k ≠ 1) (hx : x ∈ t.ts) : InV V x := fun v hv => h v (by cases t; exact (Tm.vl_mk hk).2 ⟨x, hx, hv⟩)
theorem uni_inV : ∀ (g : Nat), (∀ σ a b r σ' tr V, IsGood σ → uniF g σ a b = some (r, σ', tr) → RangeIn V σ → InV V a → InV V b → RangeIn V σ' ∧ ∀ m ∈ tr, m ∈ V) ∧
    ∀ xs ys σ r σ' tr V, IsGood σ → xs.length = ys.length → unisF g σ xs ys = some (r, σ', tr) → RangeIn V σ → (∀ x ∈ xs, InV V x) → (∀ y ∈ ys, InV V y) → RangeIn V σ' ∧ ∀ m ∈ tr, m ∈ V := by
  intro g
  have list : ∀ g, (∀ σ a b r σ' tr V, IsGood σ → uniF g σ a b = some (r, σ', tr) → RangeIn V σ → InV V a → InV V b → RangeIn V σ' ∧ ∀ m ∈ tr, m ∈ V) →
      ∀ xs ys σ r σ' tr V, IsGood σ → xs.length = ys.length → unisF g σ xs ys = some (r, σ', tr) → RangeIn V σ → (∀ x ∈ xs, InV V x) → (∀ y ∈ ys, InV V y) → RangeIn V σ' ∧ ∀ m ∈ tr, m ∈ V := by
    intro g ihU xs
    induction xs with
    | nil =>
      intro ys σ r σ' tr V hg hl h hr _ _
      cases ys with
      | cons _ _ => simp at hl
      | nil =>
        simp only [unisF, Option.some.injEq, Prod.mk.injEq] at h
        obtain ⟨rfl, rfl, rfl⟩ := h
        exact ⟨hr, fun _ h => absurd h (List.not_mem_nil)⟩
    | cons a xs ih =>
      intro ys σ r σ' tr V hg hl h hr hx hy
      cases ys with
      | nil => simp at hl
      | cons b ys =>
        rw [unisF] at h
        cases h1 : uniF g σ a b with
        | none => rw [h1] at h; cases h
        | some p =>
          obtain ⟨r1, σ1, tr1⟩ := p
          have U1 := uniF_uni hg h1
          obtain ⟨i1, i2⟩ := ihU σ a b r1 σ1 tr1 V hg h1 hr (hx a (by simp)) (hy b (by simp))
          rw [h1] at h
          cases r1 with
          | false =>
            simp only [Option.some.injEq, Prod.mk.injEq] at h
            obtain ⟨rfl, rfl, rfl⟩ := h
            exact ⟨i1, i2⟩
          | true =>
            simp only at h
            cases h2 : unisF g σ1 xs ys with
            | none => rw [h2] at h; cases h
            | some p2 =>
              obtain ⟨r2, σ2, tr2⟩ := p2
              rw [h2] at h
              simp only [Option.some.injEq, Prod.mk.injEq] at h
              obtain ⟨rfl, rfl, rfl⟩ := h
              obtain ⟨j1, j2⟩ := ih ys σ1 r2 σ2 tr2 V U1.good (by simpa using hl) h2 i1 (fun x h => hx x (by simp [h])) (fun y h => hy y (by simp [h]))
              exact ⟨j1, fun m hm => (List.mem_append.1 hm).elim (i2 m) (j2 m)⟩
  induction g with
  | zero =>
    have h0 : ∀ σ a b r σ' tr V, IsGood σ → uniF 0 σ a b = some (r, σ', tr) → RangeIn V σ → InV V a → InV V b → RangeIn V σ' ∧ ∀ m ∈ tr, m ∈ V := fun σ a b r σ' tr V hg h => by simp only [uniF] at h; cases h
    exact ⟨h0, list 0 h0⟩
  | succ g ih =>
    suffices hU : ∀ σ a b r σ' tr V, IsGood σ → uniF (g + 1) σ a b = some (r, σ', tr) → RangeIn V σ → InV V a → InV V b → RangeIn V σ' ∧ ∀ m ∈ tr, m ∈ V from ⟨hU, list _ hU⟩
    intro σ a b r σ' tr V hg h hr ha hb
    obtain ⟨_, ihL⟩ := ih
    obtain ⟨rk, B, G⟩ := hg.rs
    obtain ⟨fa, wa⟩ := G.wk a
    obtain ⟨fb, wb⟩ := G.wk b
    have va := wa.inV hr ha
    have vb := wb.inV hr hb
    have bn : ∀ n (t : Tm) r σ' tr, n ∈ V → InV V t → bnd σ n t = (r, σ', tr) → RangeIn V σ' ∧ ∀ m ∈ tr, m ∈ V := by
      intro n t r σ' tr hn ht h
      unfold bnd at h
      split at h <;> cases h
      · exact ⟨hr, fun _ h => absurd h (List.not_mem_nil)⟩
      · refine ⟨fun m u hu => ?_, fun m hm => by simp only [List.mem_cons, List.not_mem_nil, or_false] at hm; rw [hm]; exact hn⟩
        simp only [Sub.set] at hu
        split at hu
        · cases hu; exact ht
        · exact hr m u hu
    rw [uniF] at h
    generalize wk σ a = a at *
    generalize wk σ b = b at *
    split at h
    · simp only [Option.some.injEq, Prod.mk.injEq] at h
      obtain ⟨rfl, rfl, rfl⟩ := h
      exact ⟨hr, fun _ h => absurd h (List.not_mem_nil)⟩
    · split at h
      · rename_i hk
        exact bn _ _ _ _ _ (va _ (by rw [Tm.vl_k1 hk]; simp)) vb (Option.some.inj h)
      · rename_i hka
        split at h
        · rename_i hk
          exact bn _ _ _ _ _ (vb _ (by rw [Tm.vl_k1 hk]; simp)) va (Option.some.inj h)
        · rename_i hkb
          split at h
          · rename_i hh
            exact ihL a.ts b.ts σ r σ' tr V hg (headEq_iff.1 hh).2.2.2 h hr (fun x hx => va.kid hka hx) (fun y hy => vb.kid hkb hy)
          · simp only [Option.some.injEq, Prod.mk.injEq] at h
            obtain ⟨rfl, rfl, rfl⟩ := h
            exact ⟨hr, fun _ h => absurd h (List.not_mem_nil)⟩
def AllS (p : Tm → Prop) (σ : Sub) : Prop := ∀ n u, σ n = some u → p u
theorem uni_all {p : Tm → Prop} (hp : ∀ t : Tm, t.k ≠ 1 → p t → ∀ x ∈ t.ts, p x) : ∀ (g : Nat), (∀ σ a b r σ' tr, IsGood σ → uniF g σ a b = some (r, σ', tr) → AllS p σ → p a → p b → AllS p σ') ∧
    ∀ xs ys σ r σ' tr, IsGood σ → xs.length = ys.length → unisF g σ xs ys = some (r, σ', tr) → AllS p σ → (∀ x ∈ xs, p x) → (∀ y ∈ ys, p y) → AllS p σ' := by
  intro g
  have list : ∀ g, (∀ σ a b r σ' tr, IsGood σ → uniF g σ a b = some (r, σ', tr) → AllS p σ → p a → p b → AllS p σ') →
      ∀ xs ys σ r σ' tr, IsGood σ → xs.length = ys.length → unisF g σ xs ys = some (r, σ', tr) → AllS p σ → (∀ x ∈ xs, p x) → (∀ y ∈ ys, p y) → AllS p σ' := by
    intro g ihU xs
    induction xs with
    | nil =>
      intro ys σ r σ' tr hg hl h hr _ _
      cases ys with
      | cons _ _ => simp at hl
      | nil =>
        simp only [unisF, Option.some.injEq, Prod.mk.injEq] at h
        obtain ⟨rfl, rfl, rfl⟩ := h
        exact hr
    | cons a xs ih =>
      intro ys σ r σ' tr hg hl h hr hx hy
      cases ys with
      | nil => simp at hl
      | cons b ys =>
        rw [unisF] at h
        cases h1 : uniF g σ a b with
        | none => rw [h1] at h; cases h
        | some p =>
          obtain ⟨r1, σ1, tr1⟩ := p
          have U1 := uniF_uni hg h1
          have i1 := ihU σ a b r1 σ1 tr1 hg h1 hr (hx a (by simp)) (hy b (by simp))
          rw [h1] at h
          cases r1 with
          | false =>
            simp only [Option.some.injEq, Prod.mk.injEq] at h
            obtain ⟨rfl, rfl, rfl⟩ := h
            exact i1
          | true =>
            simp only at h
            cases h2 : unisF g σ1 xs ys with
            | none => rw [h2] at h; cases h
            | some p2 =>
              obtain ⟨r2, σ2, tr2⟩ := p2
              rw [h2] at h
              simp only [Option.some.injEq, Prod.mk.injEq] at h
              obtain ⟨rfl, rfl, rfl⟩ := h
              have j1 := ih ys σ1 r2 σ2 tr2 U1.good (by simpa using hl) h2 i1 (fun x h => hx x (by simp [h])) (fun y h => hy y (by simp [h]))
              exact j1
  induction g with
  | zero =>
    have h0 : ∀ σ a b r σ' tr, IsGood σ → uniF 0 σ a b = some (r, σ', tr) → AllS p σ → p a → p b → AllS p σ' := fun σ a b r σ' tr hg h => by simp only [uniF] at h; cases h
    exact ⟨h0, list 0 h0⟩
  | succ g ih =>
    suffices hU : ∀ σ a b r σ' tr, IsGood σ → uniF (g + 1) σ a b = some (r, σ', tr) → AllS p σ → p a → p b → AllS p σ' from ⟨hU, list _ hU⟩
    intro σ a b r σ' tr hg h hr ha hb
    obtain ⟨_, ihL⟩ := ih
    obtain ⟨rk, B, G⟩ := hg.rs
    obtain ⟨fa, wa⟩ := G.wk a
    obtain ⟨fb, wb⟩ := G.wk b
    have va := wa.all hr ha
    have vb := wb.all hr hb
    have bn : ∀ n (t : Tm) r σ' tr, p t → bnd σ n t = (r, σ', tr) → AllS p σ' := by
      intro n t r σ' tr ht h
      unfold bnd at h
      split at h <;> cases h
      · exact hr
      · intro m u hu
        simp only [Sub.set] at hu
        split at hu
        · cases hu; exact ht
        · exact hr m u hu
    rw [uniF] at h
    generalize wk σ a = a at *
    generalize wk σ b = b at *
    split at h
    · simp only [Option.some.injEq, Prod.mk.injEq] at h
      obtain ⟨rfl, rfl, rfl⟩ := h
      exact hr
    · split at h
      · rename_i hk
        exact bn _ _ _ _ _ vb (Option.some.inj h)
      · rename_i hka
        split at h
        · rename_i hk
          exact bn _ _ _ _ _ va (Option.some.inj h)
        · rename_i hkb
          split at h
          · rename_i hh
            exact ihL a.ts b.ts σ r σ' tr hg (headEq_iff.1 hh).2.2.2 h hr (fun x hx => hp _ hka va x hx) (fun y hy => hp _ hkb vb y hy)
          · simp only [Option.some.injEq, Prod.mk.injEq] at h
            obtain ⟨rfl, rfl, rfl⟩ := h
            exact hr
theorem uniF_total (V : List Int) : ∀ (N M : Nat) (σ : Sub) (a b : Tm), IsGood σ → RangeIn V σ → InV V a → InV V b → unb σ V ≤ N → (a.mapv (rs σ)).nodes ≤ M → ∃ g x, uniF g σ a b = some x := by
  intro N
  induction N using Nat.strongRecOn with
  | _ N ihN =>
  intro M
  induction M using Nat.strongRecOn with
  | _ M ihM =>
  intro σ a b hg hr ha hb hN hM
  have list : ∀ (xs ys : List Tm) (σ1 : Sub), xs.length = ys.length → IsGood σ1 → RangeIn V σ1 → (σ1 = σ ∨ unb σ1 V < unb σ V) → (∀ x ∈ xs, InV V x ∧ (x.mapv (rs σ)).nodes < M) → (∀ y ∈ ys, InV V y) → ∃ g x, unisF g σ1 xs ys = some x := by
    intro xs
    induction xs with
    | nil =>
      intro ys σ1 hl _ _ _ _ _
      cases ys with
      | cons _ _ => simp at hl
      | nil => exact ⟨0, (true, σ1, []), by simp only [unisF]⟩
    | cons x xs ih =>
      intro ys σ1 hl hg1 hr1 hc hx hy
      cases ys with
      | nil => simp at hl
      | cons y ys =>
        have h1 : ∃ g p, uniF g σ1 x y = some p := by
          rcases hc with rfl | hlt
          · exact ihM _ (hx x (by simp)).2 σ1 x y hg1 hr1 (hx x (by simp)).1 (hy y (by simp)) hN (Nat.le_refl _)
          · exact ihN (unb σ1 V) (by omega) _ σ1 x y hg1 hr1 (hx x (by simp)).1 (hy y (by simp)) (Nat.le_refl _) (Nat.le_refl _)
        obtain ⟨g1, ⟨r1, σ2, tr1⟩, h1⟩ := h1
        have U1 := uniF_uni hg1 h1
        obtain ⟨i1, i2⟩ := (uni_inV g1).1 σ1 x y r1 σ2 tr1 V hg1 h1 hr1 (hx x (by simp)).1 (hy y (by simp))
        cases r1 with
        | false => exact ⟨g1, (false, σ2, tr1), by rw [unisF, h1]⟩
        | true =>
          have hc2 : σ2 = σ ∨ unb σ2 V < unb σ V := by
            cases htr : tr1 with
            | nil => rw [U1.same htr]; exact hc
            | cons m _ =>
              have := unb_lt (V := V) U1.keep U1.new (m := m) (by rw [htr]; simp) (i2 m (by rw [htr]; simp))
              rcases hc with rfl | hlt
              · exact .inr this
              · exact .inr (Nat.lt_trans this hlt)
          obtain ⟨g2, p2, h2⟩ := ih ys σ2 (by simpa using hl) U1.good i1 hc2 (fun z hz => hx z (by simp [hz])) (fun z hz => hy z (by simp [hz]))
          obtain ⟨r2, σ3, tr2⟩ := p2
          refine ⟨max g1 g2, (r2, σ3, tr1 ++ tr2), ?_⟩
          rw [unisF, uniF_le (Nat.le_max_left g1 g2) h1]
          simp only
          rw [unisF_le (Nat.le_max_right g1 g2) h2]
  obtain ⟨rk, B, G⟩ := hg.rs
  obtain ⟨fa, wa⟩ := G.wk a
  obtain ⟨fb, wb⟩ := G.wk b
  have va := wa.inV hr ha
  have vb := wb.inV hr hb
  have hma := wa.mapv G.isSol
  rw [← hma] at hM
  by_cases h1 : (wk σ a).k = 1 ∧ (wk σ b).k = 1 ∧ (wk σ a).n = (wk σ b).n
  · exact ⟨1, _, by rw [uniF, if_pos h1]⟩
  by_cases h2 : (wk σ a).k = 1
  · exact ⟨1, _, by rw [uniF, if_neg h1, if_pos h2]⟩
  by_cases h3 : (wk σ b).k = 1
  · exact ⟨1, _, by rw [uniF, if_neg h1, if_neg h2, if_pos h3]⟩
  by_cases h4 : headEq (wk σ a) (wk σ b) = true
  · have hkid : ∀ x ∈ (wk σ a).ts, InV V x ∧ (x.mapv (rs σ)).nodes < M := fun x hx => by
      refine ⟨va.kid h2 hx, ?_⟩
      rw [Tm.mapv_k _ h2, Tm.nodes_mk] at hM
      have := sumL_mem (f := Tm.nodes) (List.mem_map.2 ⟨x, hx, rfl⟩ : x.mapv (rs σ) ∈ (wk σ a).ts.map (Tm.mapv (rs σ)))
      omega
    obtain ⟨g, x, h⟩ := list (wk σ a).ts (wk σ b).ts σ (headEq_iff.1 h4).2.2.2 hg hr (.inl rfl) hkid (fun y hy => vb.kid h3 hy)
    exact ⟨g + 1, x, by rw [uniF, if_neg h1, if_neg h2, if_neg h3, if_pos h4]; exact h⟩
  · exact ⟨1, _, by rw [uniF, if_neg h1, if_neg h2, if_neg h3, if_neg h4]⟩
end Go.AW
