import Derived.Test.YtaifeijnedoboaaCbFinf
import Derived.Test.YtaifeijnedoboaaCbFinh

namespace Go.AW
open Go.Proofs.Try
set_option linter.unusedSimpArgs false
set_option maxRecDepth 100000
abbrev tf_Gs_48 := And.intro tI_3 (And.intro zI_3 (And.intro underlying3 (And.intro tI_4 (And.intro zI_4 (And.intro underlying4 (And.intro tI_15 zI_15))))))
theorem c_within (n lo hi : Int) (st : zy7) : zq7 prog 48 [.int .i64 n, .int .i64 lo, .int .i64 hi] st (fun r st' => r = .bool (decide (lo ≤ n) && decide (n ≤ hi)) ∧ st' = st) := by
  refine zw6 [] func48 ntmps48 rfl rfl (by kernel_rfl) (by decide +kernel) (by show 3 ≤ _; decide +kernel) ?_
  intro _
  repeat' (first
    | (simp -implicitDefEqProofs only [*, evE, ↓evZ2, ↓evZ3, ↓Int.cast_ofNat_Int, implies_true, zy2, aFn, List.contains, List.elem, zq3, zy1, zq2, sub, zx3, zw2, zw3, zy3, gd, zq1, zw0, zq0, zx0, zx2, zx1, zy0, zw1, List.range', ↓reduceIte, reduceCtorEq, Nat.reduceEqDiff, Nat.reduceAdd, Nat.reduceLeDiff, Nat.reduceMul, Nat.reduceLT, Nat.reduceBEq, Int.reduceEq, tf_Gs_48])
    | (refine zx4 (fun h => ?_) (fun h => ?_))
    | (refine zq4 (fun h => ?_) (fun h => ?_)))
  all_goals simp_all
abbrev tf_Gs_73 := And.intro tI_2 (And.intro zI_2 (And.intro underlying2 (And.intro tI_3 (And.intro zI_3 (And.intro underlying3 (And.intro tI_4 (And.intro zI_4 (And.intro underlying4 (And.intro tI_5 (And.intro zI_5 (And.intro underlying5 (And.intro tI_6 (And.intro zI_6 (And.intro underlying6 (And.intro tI_7 (And.intro zI_7 (And.intro fI_7_0 (And.intro fI_7_1 (And.intro fI_7_2 (And.intro fI_7_3 (And.intro bI_7 (And.intro tI_8 (And.intro zI_8 (And.intro fI_8_0 (And.intro fI_8_1 (And.intro fI_8_2 (And.intro fI_8_3 (And.intro bI_8 (And.intro tI_9 (And.intro zI_9 (And.intro underlying9 (And.intro tI_10 (And.intro zI_10 (And.intro underlying10 (And.intro tI_11 (And.intro zI_11 (And.intro underlying11 (And.intro tI_12 (And.intro zI_12 (And.intro underlying12 (And.intro tI_13 (And.intro zI_13 (And.intro fI_13_0 (And.intro fI_13_1 (And.intro bI_13 (And.intro tI_14 (And.intro zI_14 (And.intro fI_14_0 (And.intro fI_14_1 (And.intro bI_14 (And.intro tI_15 (And.intro zI_15 (And.intro tI_16 (And.intro zI_16 (And.intro tI_17 (And.intro zI_17 (And.intro tI_18 (And.intro zI_18 (And.intro fI_18_0 (And.intro bI_18 (And.intro tI_19 (And.intro zI_19 (And.intro fI_19_0 (And.intro bI_19 (And.intro tI_21 (And.intro zI_21 (And.intro underlying21 (And.intro tI_58 (And.intro zI_58 (And.intro fI_58_0 (And.intro fI_58_1 (And.intro bI_58 (And.intro tI_61 (And.intro zI_61 (And.intro eI_61 (And.intro eB_61 (And.intro eZ_61 (And.intro underlying61 (And.intro tI_105 (And.intro zI_105 (And.intro bI_105 (And.intro tI_109 (And.intro zI_109 (And.intro underlying109 (And.intro tI_115 (And.intro zI_115 (And.intro fI_115_0 (And.intro fI_115_1 (And.intro fI_115_2 (And.intro fI_115_3 (And.intro fI_115_4 (And.intro fI_115_5 (And.intro fI_115_6 (And.intro fI_115_7 (And.intro fI_115_8 (And.intro fI_115_9 (And.intro fI_115_10 bI_115)))))))))))))))))))))))))))))))))))))))))))))))))))))))))))))))))))))))))))))))))))))))))))))))))
theorem c_l2Level (s : ByteArray) (st : zy7) : zq7 prog 73 [.str s] st (fun r st' => r = .int .i64 (opLevel s) ∧ st' = st) := by
  refine zw6 [] func73 ntmps73 rfl rfl (by kernel_rfl) (by decide +kernel) (by show 1 ≤ _; decide +kernel) ?_
  intro _
  repeat' (first
    | (simp -implicitDefEqProofs only [*, evE, ↓evZ2, ↓evZ3, ↓Int.cast_ofNat_Int, implies_true, zy2, aFn, List.contains, List.elem, zq3, zy1, zq2, sub, zx3, zw2, zw3, zy3, gd, zq1, zw0, zq0, zx0, zx2, zx1, zy0, zw1, List.range', ↓reduceIte, reduceCtorEq, Nat.reduceEqDiff, Nat.reduceAdd, Nat.reduceLeDiff, Nat.reduceMul, Nat.reduceLT, Nat.reduceBEq, Int.reduceEq, tf_Gs_73])
    | (refine zx4 (fun h => ?_) (fun h => ?_))
    | (refine zq4 (fun h => ?_) (fun h => ?_)))
  all_goals (simp only [opLevel, *, Bool.or_true, Bool.true_or, Bool.or_false, Bool.false_or, Bool.or_self, cond_true, cond_false]; first | done | rfl)
abbrev tf_Gs_39 := And.intro tI_2 (And.intro zI_2 (And.intro underlying2 (And.intro tI_3 (And.intro zI_3 (And.intro underlying3 (And.intro tI_4 (And.intro zI_4 (And.intro underlying4 (And.intro tI_5 (And.intro zI_5 (And.intro underlying5 (And.intro tI_6 (And.intro zI_6 (And.intro underlying6 (And.intro tI_7 (And.intro zI_7 (And.intro fI_7_0 (And.intro fI_7_1 (And.intro fI_7_2 (And.intro fI_7_3 (And.intro bI_7 (And.intro tI_8 (And.intro zI_8 (And.intro fI_8_0 (And.intro fI_8_1 (And.intro fI_8_2 (And.intro fI_8_3 (And.intro bI_8 (And.intro tI_9 (And.intro zI_9 (And.intro underlying9 (And.intro tI_10 (And.intro zI_10 (And.intro underlying10 (And.intro tI_11 (And.intro zI_11 (And.intro underlying11 (And.intro tI_12 (And.intro zI_12 (And.intro underlying12 (And.intro tI_13 (And.intro zI_13 (And.intro fI_13_0 (And.intro fI_13_1 (And.intro bI_13 (And.intro tI_14 (And.intro zI_14 (And.intro fI_14_0 (And.intro fI_14_1 (And.intro bI_14 (And.intro tI_15 (And.intro zI_15 (And.intro tI_16 (And.intro zI_16 (And.intro tI_17 (And.intro zI_17 (And.intro tI_18 (And.intro zI_18 (And.intro fI_18_0 (And.intro bI_18 (And.intro tI_19 (And.intro zI_19 (And.intro fI_19_0 (And.intro bI_19 (And.intro tI_21 (And.intro zI_21 (And.intro underlying21 (And.intro tI_22 (And.intro zI_22 (And.intro eI_22 (And.intro eB_22 (And.intro eZ_22 (And.intro underlying22 (And.intro tI_34 (And.intro zI_34 (And.intro tI_58 (And.intro zI_58 (And.intro fI_58_0 (And.intro fI_58_1 (And.intro bI_58 (And.intro tI_61 (And.intro zI_61 (And.intro eI_61 (And.intro eB_61 (And.intro eZ_61 (And.intro underlying61 (And.intro tI_97 (And.intro zI_97 (And.intro underlying97 (And.intro tI_102 (And.intro zI_102 (And.intro fI_102_0 (And.intro fI_102_1 (And.intro fI_102_2 (And.intro fI_102_3 (And.intro bI_102 (And.intro tI_103 (And.intro zI_103 (And.intro fI_103_0 (And.intro fI_103_1 (And.intro fI_103_2 (And.intro fI_103_3 (And.intro bI_103 (And.intro tI_105 (And.intro zI_105 (And.intro bI_105 (And.intro tI_108 (And.intro zI_108 (And.intro underlying108 (And.intro tI_109 (And.intro zI_109 (And.intro underlying109 (And.intro tI_110 (And.intro zI_110 (And.intro underlying110 (And.intro tI_114 (And.intro zI_114 (And.intro underlying114 (And.intro tI_115 (And.intro zI_115 (And.intro fI_115_0 (And.intro fI_115_1 (And.intro fI_115_2 (And.intro fI_115_3 (And.intro fI_115_4 (And.intro fI_115_5 (And.intro fI_115_6 (And.intro fI_115_7 (And.intro fI_115_8 (And.intro fI_115_9 (And.intro fI_115_10 (And.intro bI_115 (And.intro tI_116 (And.intro zI_116 (And.intro fI_116_0 (And.intro fI_116_1 (And.intro fI_116_2 (And.intro fI_116_3 (And.intro fI_116_4 (And.intro fI_116_5 (And.intro fI_116_6 (And.intro fI_116_7 (And.intro fI_116_8 (And.intro fI_116_9 (And.intro fI_116_10 bI_116)))))))))))))))))))))))))))))))))))))))))))))))))))))))))))))))))))))))))))))))))))))))))))))))))))))))))))))))))))))))))))))))))))))))))))))))))
theorem c_impl_IsBuiltin (s : ByteArray) (n : Int) (st : zy7) : zq7 prog 39 [.str s, .int .i64 n] st (fun r st' => r = .bool (isBuiltin s n) ∧ st' = st) := by
  refine zw6 [] func39 ntmps39 rfl rfl (by kernel_rfl) (by decide +kernel) (by show 2 ≤ _; decide +kernel) ?_
  intro _
  repeat' (first
    | (simp -implicitDefEqProofs only [*, evE, ↓evZ2, ↓evZ3, ↓Int.cast_ofNat_Int, implies_true, zy2, aFn, List.contains, List.elem, zq3, zy1, zq2, sub, zx3, zw2, zw3, zy3, gd, zq1, zw0, zq0, zx0, zx2, zx1, zy0, zw1, List.range', ↓reduceIte, reduceCtorEq, Nat.reduceEqDiff, Nat.reduceAdd, Nat.reduceLeDiff, Nat.reduceMul, Nat.reduceLT, Nat.reduceBEq, Int.reduceEq, tf_Gs_39])
    | (refine zx4 (fun h => ?_) (fun h => ?_))
    | (refine zq4 (fun h => ?_) (fun h => ?_)))
  all_goals (simp only [isBuiltin, *, Bool.or_true, Bool.true_or, Bool.or_false, Bool.false_or, Bool.or_self, cond_true, cond_false]; first | done | rfl)
abbrev tf_Gs_18 := And.intro tI_2 (And.intro zI_2 (And.intro underlying2 (And.intro tI_3 (And.intro zI_3 (And.intro underlying3 (And.intro tI_4 (And.intro zI_4 (And.intro underlying4 (And.intro tI_5 (And.intro zI_5 (And.intro underlying5 (And.intro tI_6 (And.intro zI_6 (And.intro underlying6 (And.intro tI_7 (And.intro zI_7 (And.intro fI_7_0 (And.intro fI_7_1 (And.intro fI_7_2 (And.intro fI_7_3 (And.intro bI_7 (And.intro tI_8 (And.intro zI_8 (And.intro fI_8_0 (And.intro fI_8_1 (And.intro fI_8_2 (And.intro fI_8_3 (And.intro bI_8 (And.intro tI_9 (And.intro zI_9 (And.intro underlying9 (And.intro tI_10 (And.intro zI_10 (And.intro underlying10 (And.intro tI_11 (And.intro zI_11 (And.intro underlying11 (And.intro tI_12 (And.intro zI_12 (And.intro underlying12 (And.intro tI_13 (And.intro zI_13 (And.intro fI_13_0 (And.intro fI_13_1 (And.intro bI_13 (And.intro tI_14 (And.intro zI_14 (And.intro fI_14_0 (And.intro fI_14_1 (And.intro bI_14 (And.intro tI_15 (And.intro zI_15 (And.intro tI_16 (And.intro zI_16 (And.intro tI_17 (And.intro zI_17 (And.intro tI_18 (And.intro zI_18 (And.intro fI_18_0 (And.intro bI_18 (And.intro tI_19 (And.intro zI_19 (And.intro fI_19_0 (And.intro bI_19 (And.intro tI_21 (And.intro zI_21 (And.intro underlying21 (And.intro tI_22 (And.intro zI_22 (And.intro eI_22 (And.intro eB_22 (And.intro eZ_22 (And.intro underlying22 (And.intro tI_34 (And.intro zI_34 (And.intro tI_58 (And.intro zI_58 (And.intro fI_58_0 (And.intro fI_58_1 (And.intro bI_58 (And.intro tI_61 (And.intro zI_61 (And.intro eI_61 (And.intro eB_61 (And.intro eZ_61 (And.intro underlying61 (And.intro tI_97 (And.intro zI_97 (And.intro underlying97 (And.intro tI_102 (And.intro zI_102 (And.intro fI_102_0 (And.intro fI_102_1 (And.intro fI_102_2 (And.intro fI_102_3 (And.intro bI_102 (And.intro tI_103 (And.intro zI_103 (And.intro fI_103_0 (And.intro fI_103_1 (And.intro fI_103_2 (And.intro fI_103_3 (And.intro bI_103 (And.intro tI_105 (And.intro zI_105 (And.intro bI_105 (And.intro tI_108 (And.intro zI_108 (And.intro underlying108 (And.intro tI_109 (And.intro zI_109 (And.intro underlying109 (And.intro tI_110 (And.intro zI_110 (And.intro underlying110 (And.intro tI_114 (And.intro zI_114 (And.intro underlying114 (And.intro tI_115 (And.intro zI_115 (And.intro fI_115_0 (And.intro fI_115_1 (And.intro fI_115_2 (And.intro fI_115_3 (And.intro fI_115_4 (And.intro fI_115_5 (And.intro fI_115_6 (And.intro fI_115_7 (And.intro fI_115_8 (And.intro fI_115_9 (And.intro fI_115_10 (And.intro bI_115 (And.intro tI_116 (And.intro zI_116 (And.intro fI_116_0 (And.intro fI_116_1 (And.intro fI_116_2 (And.intro fI_116_3 (And.intro fI_116_4 (And.intro fI_116_5 (And.intro fI_116_6 (And.intro fI_116_7 (And.intro fI_116_8 (And.intro fI_116_9 (And.intro fI_116_10 bI_116)))))))))))))))))))))))))))))))))))))))))))))))))))))))))))))))))))))))))))))))))))))))))))))))))))))))))))))))))))))))))))))))))))))))))))))))))
theorem c_spec_IsBuiltin (s : ByteArray) (n : Int) (st : zy7) : zq7 prog 18 [.str s, .int .i64 n] st (fun r st' => r = .bool (isBuiltin s n) ∧ st' = st) := by
  refine zw6 [] func18 ntmps18 rfl rfl (by kernel_rfl) (by decide +kernel) (by show 2 ≤ _; decide +kernel) ?_
  intro _
  repeat' (first
    | (simp -implicitDefEqProofs only [*, evE, ↓evZ2, ↓evZ3, ↓Int.cast_ofNat_Int, implies_true, zy2, aFn, List.contains, List.elem, zq3, zy1, zq2, sub, zx3, zw2, zw3, zy3, gd, zq1, zw0, zq0, zx0, zx2, zx1, zy0, zw1, List.range', ↓reduceIte, reduceCtorEq, Nat.reduceEqDiff, Nat.reduceAdd, Nat.reduceLeDiff, Nat.reduceMul, Nat.reduceLT, Nat.reduceBEq, Int.reduceEq, tf_Gs_18])
    | (refine zx4 (fun h => ?_) (fun h => ?_))
    | (refine zq4 (fun h => ?_) (fun h => ?_)))
  all_goals (simp only [isBuiltin, *, Bool.or_true, Bool.true_or, Bool.or_false, Bool.false_or, Bool.or_self, cond_true, cond_false]; first | done | rfl)
end Go.AW


namespace Go.AW
open Go.Proofs.Try
set_option linter.unusedSimpArgs false
set_option maxRecDepth 100000
abbrev tf_Gs2_87 := And.intro tI_2 (And.intro zI_2 (And.intro underlying2 (And.intro tI_3 (And.intro zI_3 (And.intro underlying3 (And.intro tI_4 (And.intro zI_4 (And.intro underlying4 (And.intro tI_5 (And.intro zI_5 (And.intro underlying5 (And.intro tI_6 (And.intro zI_6 (And.intro underlying6 (And.intro tI_8 (And.intro zI_8 (And.intro fI_8_0 (And.intro fI_8_1 (And.intro fI_8_2 (And.intro fI_8_3 (And.intro bI_8 (And.intro tI_9 (And.intro zI_9 (And.intro underlying9 (And.intro tI_19 (And.intro zI_19 (And.intro fI_19_0 (And.intro bI_19 (And.intro tI_21 (And.intro zI_21 (And.intro underlying21 (And.intro tI_22 (And.intro zI_22 (And.intro eI_22 (And.intro eB_22 (And.intro eZ_22 (And.intro underlying22 (And.intro tI_24 (And.intro zI_24 (And.intro fI_24_0 (And.intro fI_24_1 (And.intro fI_24_2 (And.intro fI_24_3 (And.intro bI_24 (And.intro tI_25 (And.intro zI_25 (And.intro fI_25_0 (And.intro fI_25_1 (And.intro fI_25_2 (And.intro fI_25_3 (And.intro bI_25 (And.intro tI_27 (And.intro zI_27 (And.intro eI_27 (And.intro eB_27 (And.intro eZ_27 (And.intro underlying27 (And.intro tI_97 (And.intro zI_97 underlying97)))))))))))))))))))))))))))))))))))))))))))))))))))))))))))
theorem c_l1Word (s : ByteArray) (st : zy7) : zq7 prog 87 [.str s] st (fun r st' => r = .bool (letters s) ∧ st' = st) := by
  refine zw6 [] func87 ntmps87 rfl rfl (by kernel_rfl) (by decide +kernel) (by show 1 ≤ _; decide +kernel) ?_
  simp only [fitsL, AV.fits, and_true]
  intro hs
  simp -implicitDefEqProofs only [evE, ↓evZ2, ↓evZ3, ↓Int.cast_ofNat_Int, implies_true, zy2, aFn, List.contains, List.elem, zq3, zy1, zq2, sub, zx3, zw2, zw3, zy3, gd, zq1, zw0, zq0, zx0, zx2, zx1, zy0, zw1, List.range', ↓reduceIte, reduceCtorEq, Nat.reduceEqDiff, Nat.reduceAdd, Nat.reduceLeDiff, Nat.reduceMul, Nat.reduceLT, Nat.reduceBEq, Int.reduceEq, tf_Gs2_87]
  refine zy6 (α := Nat) [] (fun i => i ≤ s.size ∧ ∀ (j : Nat) c, j < i → (sb s)[j]? = some c → letter c = true)
    (fun i => [(0, .str s), (3, .int .i64 i)]) (fun _ => st) (fun i => s.size - i) (by decide +kernel)
    ⟨0, ⟨by omega, by intro j x h; omega⟩, zx7.mk (by simp -implicitDefEqProofs only [evE, ↓evZ2, ↓evZ3, ↓Int.cast_ofNat_Int, implies_true, zy2, aFn, List.contains, List.elem, zq3, zy1, zq2, sub, zx3, zw2, zw3, zy3, gd, zq1, zw0, zq0, zx0, zx2, zx1, zy0, zw1, List.range', ↓reduceIte, reduceCtorEq, Nat.reduceEqDiff, Nat.reduceAdd, Nat.reduceLeDiff, Nat.reduceMul, Nat.reduceLT, Nat.reduceBEq, Int.reduceEq, tf_Gs2_87])⟩ ?_
  intro i ⟨hi, hall⟩
  simp -implicitDefEqProofs only [evE, ↓evZ2, ↓evZ3, ↓Int.cast_ofNat_Int, implies_true, zy2, aFn, List.contains, List.elem, zq3, zy1, zq2, sub, zx3, zw2, zw3, zy3, gd, zq1, zw0, zq0, zx0, zx2, zx1, zy0, zw1, List.range', ↓reduceIte, reduceCtorEq, Nat.reduceEqDiff, Nat.reduceAdd, Nat.reduceLeDiff, Nat.reduceMul, Nat.reduceLT, Nat.reduceBEq, Int.reduceEq, tf_Gs2_87]
  refine ⟨fun h5 => ?_, fun h5 => ?_⟩
  case refine_2 =>
    simp only [decide_eq_false_iff_not, Int.ofNat_lt] at h5
    have ha : (sb s).all letter = true := all_of fun j c hc => hall j c (by have := (List.getElem?_eq_some_iff.1 hc).1; rw [sb_len] at this; omega) hc
    repeat' (first
      | (simp -implicitDefEqProofs only [*, evE, ↓evZ2, ↓evZ3, ↓Int.cast_ofNat_Int, implies_true, zy2, aFn, List.contains, List.elem, zq3, zy1, zq2, sub, zx3, zw2, zw3, zy3, gd, zq1, zw0, zq0, zx0, zx2, zx1, zy0, zw1, List.range', ↓reduceIte, reduceCtorEq, Nat.reduceEqDiff, Nat.reduceAdd, Nat.reduceLeDiff, Nat.reduceMul, Nat.reduceLT, Nat.reduceBEq, Int.reduceEq, tf_Gs2_87])
      | (refine zx4 (fun h => ?_) (fun h => ?_))
      | (refine zq4 (fun h => ?_) (fun h => ?_)))
    all_goals simp only [letters, ha, Bool.true_and, AV.bool.injEq]
    all_goals simp only [*, Bool.not_true, Bool.true_and, Bool.false_and]
  simp only [decide_eq_true_eq, Int.ofNat_lt] at h5
  obtain ⟨c, hc⟩ : ∃ c, (sb s)[i]? = some c := ⟨_, List.getElem?_eq_getElem (by rw [sb_len]; exact h5)⟩
  have hx := idx_byte (P := prog) (t := 9) underlying9 hc
  simp -implicitDefEqProofs only [hx, evE, ↓evZ2, ↓evZ3, ↓Int.cast_ofNat_Int, implies_true, zy2, aFn, List.contains, List.elem, zq3, zy1, zq2, sub, zx3, zw2, zw3, zy3, gd, zq1, zw0, zq0, zx0, zx2, zx1, zy0, zw1, List.range', ↓reduceIte, reduceCtorEq, Nat.reduceEqDiff, Nat.reduceAdd, Nat.reduceLeDiff, Nat.reduceMul, Nat.reduceLT, Nat.reduceBEq, Int.reduceEq, tf_Gs2_87]
  refine zx4 (fun h6 => ?_) (fun h6 => ?_)
  case refine_2 =>
    simp -implicitDefEqProofs only [h6, evE, ↓evZ2, ↓evZ3, ↓Int.cast_ofNat_Int, implies_true, zy2, aFn, List.contains, List.elem, zq3, zy1, zq2, sub, zx3, zw2, zw3, zy3, gd, zq1, zw0, zq0, zx0, zx2, zx1, zy0, zw1, List.range', ↓reduceIte, reduceCtorEq, Nat.reduceEqDiff, Nat.reduceAdd, Nat.reduceLeDiff, Nat.reduceMul, Nat.reduceLT, Nat.reduceBEq, Int.reduceEq, tf_Gs2_87]
    simp only [Bool.not_false, decide_eq_true_eq] at h6
    simp only [letters, all_at hc (show letter c = false by simp [letter]; omega), Bool.false_and]
  simp -implicitDefEqProofs only [h6, hx, evE, ↓evZ2, ↓evZ3, ↓Int.cast_ofNat_Int, implies_true, zy2, aFn, List.contains, List.elem, zq3, zy1, zq2, sub, zx3, zw2, zw3, zy3, gd, zq1, zw0, zq0, zx0, zx2, zx1, zy0, zw1, List.range', ↓reduceIte, reduceCtorEq, Nat.reduceEqDiff, Nat.reduceAdd, Nat.reduceLeDiff, Nat.reduceMul, Nat.reduceLT, Nat.reduceBEq, Int.reduceEq, tf_Gs2_87]
  refine ⟨fun h7 => ?_, fun h7 => ?_⟩
  · simp -implicitDefEqProofs only [evE, ↓evZ2, ↓evZ3, ↓Int.cast_ofNat_Int, implies_true, zy2, aFn, List.contains, List.elem, zq3, zy1, zq2, sub, zx3, zw2, zw3, zy3, gd, zq1, zw0, zq0, zx0, zx2, zx1, zy0, zw1, List.range', ↓reduceIte, reduceCtorEq, Nat.reduceEqDiff, Nat.reduceAdd, Nat.reduceLeDiff, Nat.reduceMul, Nat.reduceLT, Nat.reduceBEq, Int.reduceEq, tf_Gs2_87]
    simp only [decide_eq_true_eq] at h7
    simp only [letters, all_at hc (show letter c = false by simp [letter]; omega), Bool.false_and]
  simp only [decide_eq_false_iff_not] at h6 h7
  simp -implicitDefEqProofs only [evE, ↓evZ2, ↓evZ3, ↓Int.cast_ofNat_Int, implies_true, zy2, aFn, List.contains, List.elem, zq3, zy1, zq2, sub, zx3, zw2, zw3, zy3, gd, zq1, zw0, zq0, zx0, zx2, zx1, zy0, zw1, List.range', ↓reduceIte, reduceCtorEq, Nat.reduceEqDiff, Nat.reduceAdd, Nat.reduceLeDiff, Nat.reduceMul, Nat.reduceLT, Nat.reduceBEq, Int.reduceEq, tf_Gs2_87]
  refine ⟨i + 1, by omega, ⟨by omega, fun j u hj hu => ?_⟩, zx7.mk ?_⟩
  · rcases Nat.lt_or_ge j i with h8 | h8
    · exact hall j u h8 hu
    · obtain rfl : j = i := by omega
      rw [hc] at hu; cases hu
      simp [letter]; omega
  · have := wrap64 (n := (i : Int) + 1) (by omega) (by omega)
    simp -implicitDefEqProofs only [this, evE, ↓evZ2, ↓evZ3, ↓Int.cast_ofNat_Int, implies_true, zy2, aFn, List.contains, List.elem, zq3, zy1, zq2, sub, zx3, zw2, zw3, zy3, gd, zq1, zw0, zq0, zx0, zx2, zx1, zy0, zw1, List.range', ↓reduceIte, reduceCtorEq, Nat.reduceEqDiff, Nat.reduceAdd, Nat.reduceLeDiff, Nat.reduceMul, Nat.reduceLT, Nat.reduceBEq, Int.reduceEq, tf_Gs2_87]
abbrev tf_Gs2_76 := And.intro tI_2 (And.intro zI_2 (And.intro underlying2 (And.intro tI_3 (And.intro zI_3 (And.intro underlying3 (And.intro tI_4 (And.intro zI_4 (And.intro underlying4 (And.intro tI_5 (And.intro zI_5 (And.intro underlying5 (And.intro tI_6 (And.intro zI_6 (And.intro underlying6 (And.intro tI_7 (And.intro zI_7 (And.intro fI_7_0 (And.intro fI_7_1 (And.intro fI_7_2 (And.intro fI_7_3 (And.intro bI_7 (And.intro tI_8 (And.intro zI_8 (And.intro fI_8_0 (And.intro fI_8_1 (And.intro fI_8_2 (And.intro fI_8_3 (And.intro bI_8 (And.intro tI_9 (And.intro zI_9 (And.intro underlying9 (And.intro tI_19 (And.intro zI_19 (And.intro fI_19_0 (And.intro bI_19 (And.intro tI_21 (And.intro zI_21 (And.intro underlying21 (And.intro tI_22 (And.intro zI_22 (And.intro eI_22 (And.intro eB_22 (And.intro eZ_22 (And.intro underlying22 (And.intro tI_23 (And.intro zI_23 (And.intro eI_23 (And.intro eB_23 (And.intro eZ_23 (And.intro underlying23 (And.intro tI_48 (And.intro zI_48 (And.intro fI_48_0 (And.intro fI_48_1 (And.intro bI_48 (And.intro tI_97 (And.intro zI_97 underlying97)))))))))))))))))))))))))))))))))))))))))))))))))))))))))
theorem c_isLetters (s : ByteArray) (st : zy7) : zq7 prog 76 [.str s] st (fun r st' => r = .bool (letters s) ∧ st' = st) := by
  refine zw6 [] func76 ntmps76 rfl rfl (by kernel_rfl) (by decide +kernel) (by show 1 ≤ _; decide +kernel) ?_
  simp only [fitsL, AV.fits, and_true]
  intro hs
  simp -implicitDefEqProofs only [evE, ↓evZ2, ↓evZ3, ↓Int.cast_ofNat_Int, implies_true, zy2, aFn, List.contains, List.elem, zq3, zy1, zq2, sub, zx3, zw2, zw3, zy3, gd, zq1, zw0, zq0, zx0, zx2, zx1, zy0, zw1, List.range', ↓reduceIte, reduceCtorEq, Nat.reduceEqDiff, Nat.reduceAdd, Nat.reduceLeDiff, Nat.reduceMul, Nat.reduceLT, Nat.reduceBEq, Int.reduceEq, tf_Gs2_76]
  refine zy6 (α := Nat) [] (fun i => i ≤ s.size ∧ ∀ (j : Nat) c, j < i → (sb s)[j]? = some c → letter c = true)
    (fun i => [(0, .str s), (5, .int .i64 s.size), (6, .int .i64 i)]) (fun _ => st) (fun i => s.size - i) (by decide +kernel)
    ⟨0, ⟨by omega, by intro j x h; omega⟩, zx7.mk (by simp -implicitDefEqProofs only [evE, ↓evZ2, ↓evZ3, ↓Int.cast_ofNat_Int, implies_true, zy2, aFn, List.contains, List.elem, zq3, zy1, zq2, sub, zx3, zw2, zw3, zy3, gd, zq1, zw0, zq0, zx0, zx2, zx1, zy0, zw1, List.range', ↓reduceIte, reduceCtorEq, Nat.reduceEqDiff, Nat.reduceAdd, Nat.reduceLeDiff, Nat.reduceMul, Nat.reduceLT, Nat.reduceBEq, Int.reduceEq, tf_Gs2_76])⟩ ?_
  intro i ⟨hi, hall⟩
  simp -implicitDefEqProofs only [evE, ↓evZ2, ↓evZ3, ↓Int.cast_ofNat_Int, implies_true, zy2, aFn, List.contains, List.elem, zq3, zy1, zq2, sub, zx3, zw2, zw3, zy3, gd, zq1, zw0, zq0, zx0, zx2, zx1, zy0, zw1, List.range', ↓reduceIte, reduceCtorEq, Nat.reduceEqDiff, Nat.reduceAdd, Nat.reduceLeDiff, Nat.reduceMul, Nat.reduceLT, Nat.reduceBEq, Int.reduceEq, tf_Gs2_76]
  refine ⟨fun h5 => ?_, fun h5 => ?_⟩
  case refine_2 =>
    simp only [decide_eq_false_iff_not, Int.ofNat_lt] at h5
    have ha : (sb s).all letter = true := all_of fun j c hc => hall j c (by have := (List.getElem?_eq_some_iff.1 hc).1; rw [sb_len] at this; omega) hc
    simp -implicitDefEqProofs only [evE, ↓evZ2, ↓evZ3, ↓Int.cast_ofNat_Int, implies_true, zy2, aFn, List.contains, List.elem, zq3, zy1, zq2, sub, zx3, zw2, zw3, zy3, gd, zq1, zw0, zq0, zx0, zx2, zx1, zy0, zw1, List.range', ↓reduceIte, reduceCtorEq, Nat.reduceEqDiff, Nat.reduceAdd, Nat.reduceLeDiff, Nat.reduceMul, Nat.reduceLT, Nat.reduceBEq, Int.reduceEq, tf_Gs2_76]
    refine (c_within _ _ _ st).to ?_
    simp -implicitDefEqProofs only [evE, ↓evZ2, ↓evZ3, ↓Int.cast_ofNat_Int, implies_true, zy2, aFn, List.contains, List.elem, zq3, zy1, zq2, sub, zx3, zw2, zw3, zy3, gd, zq1, zw0, zq0, zx0, zx2, zx1, zy0, zw1, List.range', ↓reduceIte, reduceCtorEq, Nat.reduceEqDiff, Nat.reduceAdd, Nat.reduceLeDiff, Nat.reduceMul, Nat.reduceLT, Nat.reduceBEq, Int.reduceEq, tf_Gs2_76]
    simp only [letters, ha, Bool.true_and]
  simp only [decide_eq_true_eq, Int.ofNat_lt] at h5
  obtain ⟨c, hc⟩ : ∃ c, (sb s)[i]? = some c := ⟨_, List.getElem?_eq_getElem (by rw [sb_len]; exact h5)⟩
  have hx := idx_byte (P := prog) (t := 9) underlying9 hc
  simp -implicitDefEqProofs only [hx, evE, ↓evZ2, ↓evZ3, ↓Int.cast_ofNat_Int, implies_true, zy2, aFn, List.contains, List.elem, zq3, zy1, zq2, sub, zx3, zw2, zw3, zy3, gd, zq1, zw0, zq0, zx0, zx2, zx1, zy0, zw1, List.range', ↓reduceIte, reduceCtorEq, Nat.reduceEqDiff, Nat.reduceAdd, Nat.reduceLeDiff, Nat.reduceMul, Nat.reduceLT, Nat.reduceBEq, Int.reduceEq, tf_Gs2_76]
  refine zx4 (fun h6 => ?_) (fun h6 => ?_)
  case refine_2 =>
    simp -implicitDefEqProofs only [h6, evE, ↓evZ2, ↓evZ3, ↓Int.cast_ofNat_Int, implies_true, zy2, aFn, List.contains, List.elem, zq3, zy1, zq2, sub, zx3, zw2, zw3, zy3, gd, zq1, zw0, zq0, zx0, zx2, zx1, zy0, zw1, List.range', ↓reduceIte, reduceCtorEq, Nat.reduceEqDiff, Nat.reduceAdd, Nat.reduceLeDiff, Nat.reduceMul, Nat.reduceLT, Nat.reduceBEq, Int.reduceEq, tf_Gs2_76]
    simp only [Bool.not_false, decide_eq_true_eq] at h6
    simp only [letters, all_at hc (show letter c = false by simp [letter]; omega), Bool.false_and]
  simp -implicitDefEqProofs only [h6, hx, evE, ↓evZ2, ↓evZ3, ↓Int.cast_ofNat_Int, implies_true, zy2, aFn, List.contains, List.elem, zq3, zy1, zq2, sub, zx3, zw2, zw3, zy3, gd, zq1, zw0, zq0, zx0, zx2, zx1, zy0, zw1, List.range', ↓reduceIte, reduceCtorEq, Nat.reduceEqDiff, Nat.reduceAdd, Nat.reduceLeDiff, Nat.reduceMul, Nat.reduceLT, Nat.reduceBEq, Int.reduceEq, tf_Gs2_76]
  refine ⟨fun h7 => ?_, fun h7 => ?_⟩
  · simp -implicitDefEqProofs only [evE, ↓evZ2, ↓evZ3, ↓Int.cast_ofNat_Int, implies_true, zy2, aFn, List.contains, List.elem, zq3, zy1, zq2, sub, zx3, zw2, zw3, zy3, gd, zq1, zw0, zq0, zx0, zx2, zx1, zy0, zw1, List.range', ↓reduceIte, reduceCtorEq, Nat.reduceEqDiff, Nat.reduceAdd, Nat.reduceLeDiff, Nat.reduceMul, Nat.reduceLT, Nat.reduceBEq, Int.reduceEq, tf_Gs2_76]
    simp only [decide_eq_true_eq] at h7
    simp only [letters, all_at hc (show letter c = false by simp [letter]; omega), Bool.false_and]
  simp only [decide_eq_false_iff_not] at h6 h7
  simp -implicitDefEqProofs only [evE, ↓evZ2, ↓evZ3, ↓Int.cast_ofNat_Int, implies_true, zy2, aFn, List.contains, List.elem, zq3, zy1, zq2, sub, zx3, zw2, zw3, zy3, gd, zq1, zw0, zq0, zx0, zx2, zx1, zy0, zw1, List.range', ↓reduceIte, reduceCtorEq, Nat.reduceEqDiff, Nat.reduceAdd, Nat.reduceLeDiff, Nat.reduceMul, Nat.reduceLT, Nat.reduceBEq, Int.reduceEq, tf_Gs2_76]
  refine ⟨i + 1, by omega, ⟨by omega, fun j u hj hu => ?_⟩, zx7.mk ?_⟩
  · rcases Nat.lt_or_ge j i with h8 | h8
    · exact hall j u h8 hu
    · obtain rfl : j = i := by omega
      rw [hc] at hu; cases hu
      simp [letter]; omega
  · have := wrap64 (n := (i : Int) + 1) (by omega) (by omega)
    simp -implicitDefEqProofs only [this, evE, ↓evZ2, ↓evZ3, ↓Int.cast_ofNat_Int, implies_true, zy2, aFn, List.contains, List.elem, zq3, zy1, zq2, sub, zx3, zw2, zw3, zy3, gd, zq1, zw0, zq0, zx0, zx2, zx1, zy0, zw1, List.range', ↓reduceIte, reduceCtorEq, Nat.reduceEqDiff, Nat.reduceAdd, Nat.reduceLeDiff, Nat.reduceMul, Nat.reduceLT, Nat.reduceBEq, Int.reduceEq, tf_Gs2_76]
abbrev tf_Gs2_47 := And.intro tI_3 (And.intro zI_3 (And.intro underlying3 (And.intro tI_4 (And.intro zI_4 (And.intro underlying4 (And.intro tI_8 (And.intro zI_8 (And.intro fI_8_0 (And.intro fI_8_1 (And.intro fI_8_2 (And.intro fI_8_3 (And.intro bI_8 (And.intro tI_9 (And.intro zI_9 (And.intro underlying9 (And.intro tI_12 (And.intro zI_12 (And.intro underlying12 (And.intro tI_23 (And.intro zI_23 (And.intro eI_23 (And.intro eB_23 (And.intro eZ_23 (And.intro underlying23 (And.intro tI_25 (And.intro zI_25 (And.intro fI_25_0 (And.intro fI_25_1 (And.intro fI_25_2 (And.intro fI_25_3 (And.intro bI_25 (And.intro tI_102 (And.intro zI_102 (And.intro fI_102_0 (And.intro fI_102_1 (And.intro fI_102_2 (And.intro fI_102_3 bI_102)))))))))))))))))))))))))))))))))))))
theorem c_isAtom (k n : Int) (s : ByteArray) (ts : List Tm) (st : zy7) : zq7 prog 47 [(Tm.mk k n s ts).av] st (fun r st' => r = .bool (decide (k = 3) && decide ((ts.length : Int) = 0)) ∧ st' = st) := by
  refine zw6 [] func47 ntmps47 rfl rfl (by kernel_rfl) (by decide +kernel) (by show 1 ≤ _; decide +kernel) ?_
  intro _
  simp only [Tm.av_mk]
  repeat' (first
    | (simp -implicitDefEqProofs only [*, evE, ↓evZ2, ↓evZ3, ↓Int.cast_ofNat_Int, implies_true, zy2, aFn, List.contains, List.elem, zq3, zy1, zq2, sub, zx3, zw2, zw3, zy3, gd, zq1, zw0, zq0, zx0, zx2, zx1, zy0, zw1, List.range', ↓reduceIte, reduceCtorEq, Nat.reduceEqDiff, Nat.reduceAdd, Nat.reduceLeDiff, Nat.reduceMul, Nat.reduceLT, Nat.reduceBEq, Int.reduceEq, tf_Gs2_47])
    | (refine zx4 (fun h => ?_) (fun h => ?_))
    | (refine zq4 (fun h => ?_) (fun h => ?_)))
  all_goals simp_all
end Go.AW


namespace Go.AW
open Go.Proofs.Try
set_option linter.unusedSimpArgs false
set_option maxRecDepth 100000
def signs : List ByteArray := [⟨#[43]⟩, ⟨#[45]⟩, ⟨#[42]⟩, ⟨#[47, 47]⟩, ⟨#[61]⟩, ⟨#[92, 61]⟩, ⟨#[61, 61]⟩, ⟨#[60]⟩, ⟨#[62]⟩, ⟨#[61, 60]⟩, ⟨#[62, 61]⟩, ⟨#[61, 58, 61]⟩, ⟨#[46]⟩, ⟨#[91, 93]⟩, ⟨#[33]⟩]
abbrev tf_Gs3_77 := And.intro tI_2 (And.intro zI_2 (And.intro underlying2 (And.intro tI_3 (And.intro zI_3 (And.intro underlying3 (And.intro tI_4 (And.intro zI_4 (And.intro underlying4 (And.intro tI_5 (And.intro zI_5 (And.intro underlying5 (And.intro tI_6 (And.intro zI_6 (And.intro underlying6 (And.intro tI_7 (And.intro zI_7 (And.intro fI_7_0 (And.intro fI_7_1 (And.intro fI_7_2 (And.intro fI_7_3 (And.intro bI_7 (And.intro tI_8 (And.intro zI_8 (And.intro fI_8_0 (And.intro fI_8_1 (And.intro fI_8_2 (And.intro fI_8_3 (And.intro bI_8 (And.intro tI_9 (And.intro zI_9 (And.intro underlying9 (And.intro tI_10 (And.intro zI_10 (And.intro underlying10 (And.intro tI_11 (And.intro zI_11 (And.intro underlying11 (And.intro tI_12 (And.intro zI_12 (And.intro underlying12 (And.intro tI_13 (And.intro zI_13 (And.intro fI_13_0 (And.intro fI_13_1 (And.intro bI_13 (And.intro tI_14 (And.intro zI_14 (And.intro fI_14_0 (And.intro fI_14_1 (And.intro bI_14 (And.intro tI_15 (And.intro zI_15 (And.intro tI_58 (And.intro zI_58 (And.intro fI_58_0 (And.intro fI_58_1 (And.intro bI_58 (And.intro tI_61 (And.intro zI_61 (And.intro eI_61 (And.intro eB_61 (And.intro eZ_61 (And.intro underlying61 (And.intro tI_63 (And.intro zI_63 (And.intro eI_63 (And.intro eB_63 (And.intro eZ_63 underlying63))))))))))))))))))))))))))))))))))))))))))))))))))))))))))))))))))))
theorem c_symbols (st : zy7) : zq7 prog 77 [] st (fun r st' => r = .fslice (signs.map .str) ∧ st' = st) := by
  refine zw6 [] func77 ntmps77 rfl rfl (by kernel_rfl) (by decide +kernel) (by show 0 ≤ _; decide +kernel) ?_
  intro _
  simp -implicitDefEqProofs only [signs, evE, ↓evZ2, ↓evZ3, ↓Int.cast_ofNat_Int, implies_true, zy2, aFn, List.contains, List.elem, zq3, zy1, zq2, sub, zx3, zw2, zw3, zy3, gd, zq1, zw0, zq0, zx0, zx2, zx1, zy0, zw1, List.range', ↓reduceIte, reduceCtorEq, Nat.reduceEqDiff, Nat.reduceAdd, Nat.reduceLeDiff, Nat.reduceMul, Nat.reduceLT, Nat.reduceBEq, Int.reduceEq, tf_Gs3_77]
abbrev tf_Gs3_89 := And.intro tI_2 (And.intro zI_2 (And.intro underlying2 (And.intro tI_3 (And.intro zI_3 (And.intro underlying3 (And.intro tI_4 (And.intro zI_4 (And.intro underlying4 (And.intro tI_5 (And.intro zI_5 (And.intro underlying5 (And.intro tI_6 (And.intro zI_6 (And.intro underlying6 (And.intro tI_7 (And.intro zI_7 (And.intro fI_7_0 (And.intro fI_7_1 (And.intro fI_7_2 (And.intro fI_7_3 (And.intro bI_7 (And.intro tI_8 (And.intro zI_8 (And.intro fI_8_0 (And.intro fI_8_1 (And.intro fI_8_2 (And.intro fI_8_3 (And.intro bI_8 (And.intro tI_9 (And.intro zI_9 (And.intro underlying9 (And.intro tI_10 (And.intro zI_10 (And.intro underlying10 (And.intro tI_11 (And.intro zI_11 (And.intro underlying11 (And.intro tI_12 (And.intro zI_12 (And.intro underlying12 (And.intro tI_13 (And.intro zI_13 (And.intro fI_13_0 (And.intro fI_13_1 (And.intro bI_13 (And.intro tI_14 (And.intro zI_14 (And.intro fI_14_0 (And.intro fI_14_1 (And.intro bI_14 (And.intro tI_15 (And.intro zI_15 (And.intro tI_58 (And.intro zI_58 (And.intro fI_58_0 (And.intro fI_58_1 (And.intro bI_58 (And.intro tI_61 (And.intro zI_61 (And.intro eI_61 (And.intro eB_61 (And.intro eZ_61 (And.intro underlying61 (And.intro tI_63 (And.intro zI_63 (And.intro eI_63 (And.intro eB_63 (And.intro eZ_63 underlying63))))))))))))))))))))))))))))))))))))))))))))))))))))))))))))))))))))
theorem c_l1Signs (st : zy7) : zq7 prog 89 [] st (fun r st' => r = .fslice (signs.map .str) ∧ st' = st) := by
  refine zw6 [] func89 ntmps89 rfl rfl (by kernel_rfl) (by decide +kernel) (by show 0 ≤ _; decide +kernel) ?_
  intro _
  simp -implicitDefEqProofs only [signs, evE, ↓evZ2, ↓evZ3, ↓Int.cast_ofNat_Int, implies_true, zy2, aFn, List.contains, List.elem, zq3, zy1, zq2, sub, zx3, zw2, zw3, zy3, gd, zq1, zw0, zq0, zx0, zx2, zx1, zy0, zw1, List.range', ↓reduceIte, reduceCtorEq, Nat.reduceEqDiff, Nat.reduceAdd, Nat.reduceLeDiff, Nat.reduceMul, Nat.reduceLT, Nat.reduceBEq, Int.reduceEq, tf_Gs3_89]
abbrev tf_Gs3_88 := And.intro tI_2 (And.intro zI_2 (And.intro underlying2 (And.intro tI_3 (And.intro zI_3 (And.intro underlying3 (And.intro tI_4 (And.intro zI_4 (And.intro underlying4 (And.intro tI_5 (And.intro zI_5 (And.intro underlying5 (And.intro tI_6 (And.intro zI_6 (And.intro underlying6 (And.intro tI_7 (And.intro zI_7 (And.intro fI_7_0 (And.intro fI_7_1 (And.intro fI_7_2 (And.intro fI_7_3 (And.intro bI_7 (And.intro tI_8 (And.intro zI_8 (And.intro fI_8_0 (And.intro fI_8_1 (And.intro fI_8_2 (And.intro fI_8_3 (And.intro bI_8 (And.intro tI_9 (And.intro zI_9 (And.intro underlying9 (And.intro tI_12 (And.intro zI_12 (And.intro underlying12 (And.intro tI_17 (And.intro zI_17 (And.intro tI_18 (And.intro zI_18 (And.intro fI_18_0 (And.intro bI_18 (And.intro tI_63 (And.intro zI_63 (And.intro eI_63 (And.intro eB_63 (And.intro eZ_63 underlying63)))))))))))))))))))))))))))))))))))))))))))))
theorem c_l1Has (l : List ByteArray) (s : ByteArray) (st : zy7) : zq7 prog 88 [.slice (l.map .str), .str s] st (fun r st' => r = .bool (l.any fun x => decide (x = s)) ∧ st' = st) := by
  refine zw6 [] func88 ntmps88 rfl rfl (by kernel_rfl) (by decide +kernel) (by show 2 ≤ _; decide +kernel) ?_
  simp only [fitsL, AV.fits, and_true, List.length_map]
  intro ⟨⟨hl, _⟩, _⟩
  simp -implicitDefEqProofs only [evE, ↓evZ2, ↓evZ3, ↓Int.cast_ofNat_Int, implies_true, zy2, aFn, List.contains, List.elem, zq3, zy1, zq2, sub, zx3, zw2, zw3, zy3, gd, zq1, zw0, zq0, zx0, zx2, zx1, zy0, zw1, List.range', ↓reduceIte, reduceCtorEq, Nat.reduceEqDiff, Nat.reduceAdd, Nat.reduceLeDiff, Nat.reduceMul, Nat.reduceLT, Nat.reduceBEq, Int.reduceEq, tf_Gs3_88]
  refine zy6 (α := Nat) [] (fun i => i ≤ l.length ∧ ∀ (j : Nat) x, j < i → l[j]? = some x → decide (x = s) = false)
    (fun i => [(0, .slice (l.map .str)), (1, .str s), (5, .int .i64 i)]) (fun _ => st) (fun i => l.length - i) (by decide +kernel)
    ⟨0, ⟨by omega, by intro j x h; omega⟩, zx7.mk (by simp -implicitDefEqProofs only [evE, ↓evZ2, ↓evZ3, ↓Int.cast_ofNat_Int, implies_true, zy2, aFn, List.contains, List.elem, zq3, zy1, zq2, sub, zx3, zw2, zw3, zy3, gd, zq1, zw0, zq0, zx0, zx2, zx1, zy0, zw1, List.range', ↓reduceIte, reduceCtorEq, Nat.reduceEqDiff, Nat.reduceAdd, Nat.reduceLeDiff, Nat.reduceMul, Nat.reduceLT, Nat.reduceBEq, Int.reduceEq, tf_Gs3_88])⟩ ?_
  intro i ⟨hi, hall⟩
  simp -implicitDefEqProofs only [List.length_map, evE, ↓evZ2, ↓evZ3, ↓Int.cast_ofNat_Int, implies_true, zy2, aFn, List.contains, List.elem, zq3, zy1, zq2, sub, zx3, zw2, zw3, zy3, gd, zq1, zw0, zq0, zx0, zx2, zx1, zy0, zw1, List.range', ↓reduceIte, reduceCtorEq, Nat.reduceEqDiff, Nat.reduceAdd, Nat.reduceLeDiff, Nat.reduceMul, Nat.reduceLT, Nat.reduceBEq, Int.reduceEq, tf_Gs3_88]
  refine ⟨fun h5 => ?_, fun h5 => ?_⟩
  case refine_2 =>
    simp -implicitDefEqProofs only [evE, ↓evZ2, ↓evZ3, ↓Int.cast_ofNat_Int, implies_true, zy2, aFn, List.contains, List.elem, zq3, zy1, zq2, sub, zx3, zw2, zw3, zy3, gd, zq1, zw0, zq0, zx0, zx2, zx1, zy0, zw1, List.range', ↓reduceIte, reduceCtorEq, Nat.reduceEqDiff, Nat.reduceAdd, Nat.reduceLeDiff, Nat.reduceMul, Nat.reduceLT, Nat.reduceBEq, Int.reduceEq, tf_Gs3_88]
    simp only [decide_eq_false_iff_not, Int.ofNat_lt] at h5
    have : (l.any fun x => decide (x = s)) = false := by
      rw [List.any_eq_false]
      intro x hx
      obtain ⟨j, hj⟩ := List.getElem?_of_mem hx
      simp [hall j x (by have := (List.getElem?_eq_some_iff.1 hj).1; omega) hj]
    rw [this]
  simp only [decide_eq_true_eq, Int.ofNat_lt] at h5
  obtain ⟨x, hx⟩ : ∃ x, l[i]? = some x := ⟨_, List.getElem?_eq_getElem h5⟩
  simp -implicitDefEqProofs only [ev_at (av := AV.str) eI_63 hx rfl, evE, ↓evZ2, ↓evZ3, ↓Int.cast_ofNat_Int, implies_true, zy2, aFn, List.contains, List.elem, zq3, zy1, zq2, sub, zx3, zw2, zw3, zy3, gd, zq1, zw0, zq0, zx0, zx2, zx1, zy0, zw1, List.range', ↓reduceIte, reduceCtorEq, Nat.reduceEqDiff, Nat.reduceAdd, Nat.reduceLeDiff, Nat.reduceMul, Nat.reduceLT, Nat.reduceBEq, Int.reduceEq, tf_Gs3_88]
  refine ⟨fun h6 => ?_, fun h6 => ?_⟩
  · simp -implicitDefEqProofs only [evE, ↓evZ2, ↓evZ3, ↓Int.cast_ofNat_Int, implies_true, zy2, aFn, List.contains, List.elem, zq3, zy1, zq2, sub, zx3, zw2, zw3, zy3, gd, zq1, zw0, zq0, zx0, zx2, zx1, zy0, zw1, List.range', ↓reduceIte, reduceCtorEq, Nat.reduceEqDiff, Nat.reduceAdd, Nat.reduceLeDiff, Nat.reduceMul, Nat.reduceLT, Nat.reduceBEq, Int.reduceEq, tf_Gs3_88]
    have : (l.any fun x => decide (x = s)) = true := by
      rw [List.any_eq_true]
      exact ⟨x, List.mem_of_getElem? hx, h6⟩
    rw [this]
  simp -implicitDefEqProofs only [evE, ↓evZ2, ↓evZ3, ↓Int.cast_ofNat_Int, implies_true, zy2, aFn, List.contains, List.elem, zq3, zy1, zq2, sub, zx3, zw2, zw3, zy3, gd, zq1, zw0, zq0, zx0, zx2, zx1, zy0, zw1, List.range', ↓reduceIte, reduceCtorEq, Nat.reduceEqDiff, Nat.reduceAdd, Nat.reduceLeDiff, Nat.reduceMul, Nat.reduceLT, Nat.reduceBEq, Int.reduceEq, tf_Gs3_88]
  refine ⟨i + 1, by omega, ⟨by omega, fun j u hj hu => ?_⟩, zx7.mk ?_⟩
  · rcases Nat.lt_or_ge j i with h8 | h8
    · exact hall j u h8 hu
    · obtain rfl : j = i := by omega
      rw [hx] at hu; cases hu
      exact h6
  · have := wrap64 (n := (i : Int) + 1) (by omega) (by omega)
    simp -implicitDefEqProofs only [this, evE, ↓evZ2, ↓evZ3, ↓Int.cast_ofNat_Int, implies_true, zy2, aFn, List.contains, List.elem, zq3, zy1, zq2, sub, zx3, zw2, zw3, zy3, gd, zq1, zw0, zq0, zx0, zx2, zx1, zy0, zw1, List.range', ↓reduceIte, reduceCtorEq, Nat.reduceEqDiff, Nat.reduceAdd, Nat.reduceLeDiff, Nat.reduceMul, Nat.reduceLT, Nat.reduceBEq, Int.reduceEq, tf_Gs3_88]
abbrev tf_Gs3_79 := And.intro tI_2 (And.intro zI_2 (And.intro underlying2 (And.intro tI_3 (And.intro zI_3 (And.intro underlying3 (And.intro tI_4 (And.intro zI_4 (And.intro underlying4 (And.intro tI_5 (And.intro zI_5 (And.intro underlying5 (And.intro tI_6 (And.intro zI_6 (And.intro underlying6 (And.intro tI_7 (And.intro zI_7 (And.intro fI_7_0 (And.intro fI_7_1 (And.intro fI_7_2 (And.intro fI_7_3 (And.intro bI_7 (And.intro tI_8 (And.intro zI_8 (And.intro fI_8_0 (And.intro fI_8_1 (And.intro fI_8_2 (And.intro fI_8_3 (And.intro bI_8 (And.intro tI_9 (And.intro zI_9 (And.intro underlying9 (And.intro tI_18 (And.intro zI_18 (And.intro fI_18_0 (And.intro bI_18 (And.intro tI_19 (And.intro zI_19 (And.intro fI_19_0 (And.intro bI_19 (And.intro tI_63 (And.intro zI_63 (And.intro eI_63 (And.intro eB_63 (And.intro eZ_63 (And.intro underlying63 (And.intro tI_97 (And.intro zI_97 underlying97)))))))))))))))))))))))))))))))))))))))))))))))
theorem c_IndexS (l : List ByteArray) (s : ByteArray) (st : zy7) : zq7 prog 79 [.slice (l.map .str), .str s] st (fun r st' => (∃ k : Int, r = .int .i64 k ∧ decide (0 ≤ k) = l.any fun x => decide (s = x)) ∧ st' = st) := by
  refine zw6 [] func79 ntmps79 rfl rfl (by kernel_rfl) (by decide +kernel) (by show 2 ≤ _; decide +kernel) ?_
  simp only [fitsL, AV.fits, and_true, List.length_map]
  intro ⟨⟨hl, _⟩, _⟩
  simp -implicitDefEqProofs only [List.length_map, evE, ↓evZ2, ↓evZ3, ↓Int.cast_ofNat_Int, implies_true, zy2, aFn, List.contains, List.elem, zq3, zy1, zq2, sub, zx3, zw2, zw3, zy3, gd, zq1, zw0, zq0, zx0, zx2, zx1, zy0, zw1, List.range', ↓reduceIte, reduceCtorEq, Nat.reduceEqDiff, Nat.reduceAdd, Nat.reduceLeDiff, Nat.reduceMul, Nat.reduceLT, Nat.reduceBEq, Int.reduceEq, tf_Gs3_79]
  refine zy6 (α := Nat) [] (fun i => i ≤ l.length ∧ ∀ (j : Nat) x, j < i → l[j]? = some x → decide (s = x) = false)
    (fun i => [(0, .slice (l.map .str)), (1, .str s), (7, .int .i64 l.length), (8, .int .i64 i)]) (fun _ => st) (fun i => l.length - i) (by decide +kernel)
    ⟨0, ⟨by omega, by intro j x h; omega⟩, zx7.mk (by simp -implicitDefEqProofs only [evE, ↓evZ2, ↓evZ3, ↓Int.cast_ofNat_Int, implies_true, zy2, aFn, List.contains, List.elem, zq3, zy1, zq2, sub, zx3, zw2, zw3, zy3, gd, zq1, zw0, zq0, zx0, zx2, zx1, zy0, zw1, List.range', ↓reduceIte, reduceCtorEq, Nat.reduceEqDiff, Nat.reduceAdd, Nat.reduceLeDiff, Nat.reduceMul, Nat.reduceLT, Nat.reduceBEq, Int.reduceEq, tf_Gs3_79])⟩ ?_
  intro i ⟨hi, hall⟩
  simp -implicitDefEqProofs only [List.length_map, evE, ↓evZ2, ↓evZ3, ↓Int.cast_ofNat_Int, implies_true, zy2, aFn, List.contains, List.elem, zq3, zy1, zq2, sub, zx3, zw2, zw3, zy3, gd, zq1, zw0, zq0, zx0, zx2, zx1, zy0, zw1, List.range', ↓reduceIte, reduceCtorEq, Nat.reduceEqDiff, Nat.reduceAdd, Nat.reduceLeDiff, Nat.reduceMul, Nat.reduceLT, Nat.reduceBEq, Int.reduceEq, tf_Gs3_79]
  refine ⟨fun h5 => ?_, fun h5 => ?_⟩
  case refine_2 =>
    simp -implicitDefEqProofs only [evE, ↓evZ2, ↓evZ3, ↓Int.cast_ofNat_Int, implies_true, zy2, aFn, List.contains, List.elem, zq3, zy1, zq2, sub, zx3, zw2, zw3, zy3, gd, zq1, zw0, zq0, zx0, zx2, zx1, zy0, zw1, List.range', ↓reduceIte, reduceCtorEq, Nat.reduceEqDiff, Nat.reduceAdd, Nat.reduceLeDiff, Nat.reduceMul, Nat.reduceLT, Nat.reduceBEq, Int.reduceEq, tf_Gs3_79]
    simp only [decide_eq_false_iff_not, Int.ofNat_lt] at h5
    have : (l.any fun x => decide (s = x)) = false := by
      rw [List.any_eq_false]
      intro x hx
      obtain ⟨j, hj⟩ := List.getElem?_of_mem hx
      simp [hall j x (by have := (List.getElem?_eq_some_iff.1 hj).1; omega) hj]
    rw [this]
    exact ⟨_, rfl, rfl⟩
  simp only [decide_eq_true_eq, Int.ofNat_lt] at h5
  obtain ⟨x, hx⟩ : ∃ x, l[i]? = some x := ⟨_, List.getElem?_eq_getElem h5⟩
  simp -implicitDefEqProofs only [ev_at (av := AV.str) eI_63 hx rfl, evE, ↓evZ2, ↓evZ3, ↓Int.cast_ofNat_Int, implies_true, zy2, aFn, List.contains, List.elem, zq3, zy1, zq2, sub, zx3, zw2, zw3, zy3, gd, zq1, zw0, zq0, zx0, zx2, zx1, zy0, zw1, List.range', ↓reduceIte, reduceCtorEq, Nat.reduceEqDiff, Nat.reduceAdd, Nat.reduceLeDiff, Nat.reduceMul, Nat.reduceLT, Nat.reduceBEq, Int.reduceEq, tf_Gs3_79]
  refine ⟨fun h6 => ?_, fun h6 => ?_⟩
  · simp -implicitDefEqProofs only [evE, ↓evZ2, ↓evZ3, ↓Int.cast_ofNat_Int, implies_true, zy2, aFn, List.contains, List.elem, zq3, zy1, zq2, sub, zx3, zw2, zw3, zy3, gd, zq1, zw0, zq0, zx0, zx2, zx1, zy0, zw1, List.range', ↓reduceIte, reduceCtorEq, Nat.reduceEqDiff, Nat.reduceAdd, Nat.reduceLeDiff, Nat.reduceMul, Nat.reduceLT, Nat.reduceBEq, Int.reduceEq, tf_Gs3_79]
    have : (l.any fun x => decide (s = x)) = true := by
      rw [List.any_eq_true]
      exact ⟨x, List.mem_of_getElem? hx, h6⟩
    rw [this]
    exact ⟨_, rfl, by simp⟩
  simp -implicitDefEqProofs only [evE, ↓evZ2, ↓evZ3, ↓Int.cast_ofNat_Int, implies_true, zy2, aFn, List.contains, List.elem, zq3, zy1, zq2, sub, zx3, zw2, zw3, zy3, gd, zq1, zw0, zq0, zx0, zx2, zx1, zy0, zw1, List.range', ↓reduceIte, reduceCtorEq, Nat.reduceEqDiff, Nat.reduceAdd, Nat.reduceLeDiff, Nat.reduceMul, Nat.reduceLT, Nat.reduceBEq, Int.reduceEq, tf_Gs3_79]
  refine ⟨i + 1, by omega, ⟨by omega, fun j u hj hu => ?_⟩, zx7.mk ?_⟩
  · rcases Nat.lt_or_ge j i with h8 | h8
    · exact hall j u h8 hu
    · obtain rfl : j = i := by omega
      rw [hx] at hu; cases hu
      exact h6
  · have := wrap64 (n := (i : Int) + 1) (by omega) (by omega)
    simp -implicitDefEqProofs only [this, evE, ↓evZ2, ↓evZ3, ↓Int.cast_ofNat_Int, implies_true, zy2, aFn, List.contains, List.elem, zq3, zy1, zq2, sub, zx3, zw2, zw3, zy3, gd, zq1, zw0, zq0, zx0, zx2, zx1, zy0, zw1, List.range', ↓reduceIte, reduceCtorEq, Nat.reduceEqDiff, Nat.reduceAdd, Nat.reduceLeDiff, Nat.reduceMul, Nat.reduceLT, Nat.reduceBEq, Int.reduceEq, tf_Gs3_79]
abbrev tf_Gs3_67 := And.intro tI_3 (And.intro zI_3 (And.intro underlying3 (And.intro tI_4 (And.intro zI_4 (And.intro underlying4 (And.intro tI_5 (And.intro zI_5 (And.intro underlying5 (And.intro tI_6 (And.intro zI_6 (And.intro underlying6 (And.intro tI_7 (And.intro zI_7 (And.intro fI_7_0 (And.intro fI_7_1 (And.intro fI_7_2 (And.intro fI_7_3 (And.intro bI_7 (And.intro tI_9 (And.intro zI_9 (And.intro underlying9 (And.intro tI_63 (And.intro zI_63 (And.intro eI_63 (And.intro eB_63 (And.intro eZ_63 underlying63))))))))))))))))))))))))))
theorem c_ContainsS (l : List ByteArray) (s : ByteArray) (st : zy7) : zq7 prog 67 [.slice (l.map .str), .str s] st (fun r st' => r = .bool (l.any fun x => decide (s = x)) ∧ st' = st) := by
  refine zw6 [] func67 ntmps67 rfl rfl (by kernel_rfl) (by decide +kernel) (by show 2 ≤ _; decide +kernel) ?_
  intro _
  simp -implicitDefEqProofs only [evE, ↓evZ2, ↓evZ3, ↓Int.cast_ofNat_Int, implies_true, zy2, aFn, List.contains, List.elem, zq3, zy1, zq2, sub, zx3, zw2, zw3, zy3, gd, zq1, zw0, zq0, zx0, zx2, zx1, zy0, zw1, List.range', ↓reduceIte, reduceCtorEq, Nat.reduceEqDiff, Nat.reduceAdd, Nat.reduceLeDiff, Nat.reduceMul, Nat.reduceLT, Nat.reduceBEq, Int.reduceEq, tf_Gs3_67]
  refine (c_IndexS l s st).mono ?_
  rintro _ _ ⟨⟨k, rfl, hk⟩, rfl⟩
  simp -implicitDefEqProofs only [evE, ↓evZ2, ↓evZ3, ↓Int.cast_ofNat_Int, implies_true, zy2, aFn, List.contains, List.elem, zq3, zy1, zq2, sub, zx3, zw2, zw3, zy3, gd, zq1, zw0, zq0, zx0, zx2, zx1, zy0, zw1, List.range', ↓reduceIte, reduceCtorEq, Nat.reduceEqDiff, Nat.reduceAdd, Nat.reduceLeDiff, Nat.reduceMul, Nat.reduceLT, Nat.reduceBEq, Int.reduceEq, tf_Gs3_67]
  rw [← hk]
theorem c_ContainsS' (l : List ByteArray) (s : ByteArray) (st : zy7) : zq7 prog 67 [.fslice (l.map .str), .str s] st (fun r st' => r = .bool (l.any fun x => decide (s = x)) ∧ st' = st) :=
  zq7.softArgs (by simp only [softL, AV.soft]; exact c_ContainsS l s st)
theorem c_l1Has' (l : List ByteArray) (s : ByteArray) (st : zy7) : zq7 prog 88 [.fslice (l.map .str), .str s] st (fun r st' => r = .bool (l.any fun x => decide (x = s)) ∧ st' = st) :=
  zq7.softArgs (by simp only [softL, AV.soft]; exact c_l1Has l s st)
def nameValid (s : ByteArray) : Bool := letters s || signs.any fun x => decide (s = x)
theorem any_swap (s : ByteArray) : (signs.any fun x => decide (x = s)) = signs.any fun x => decide (s = x) := by
  congr 1
  funext x
  exact decide_eq_decide.2 ⟨Eq.symm, Eq.symm⟩
abbrev tf_Gs3_64 := And.intro tI_2 (And.intro zI_2 (And.intro underlying2 (And.intro tI_3 (And.intro zI_3 (And.intro underlying3 (And.intro tI_4 (And.intro zI_4 (And.intro underlying4 (And.intro tI_6 (And.intro zI_6 (And.intro underlying6 (And.intro tI_7 (And.intro zI_7 (And.intro fI_7_0 (And.intro fI_7_1 (And.intro fI_7_2 (And.intro fI_7_3 (And.intro bI_7 (And.intro tI_8 (And.intro zI_8 (And.intro fI_8_0 (And.intro fI_8_1 (And.intro fI_8_2 (And.intro fI_8_3 (And.intro bI_8 (And.intro tI_9 (And.intro zI_9 (And.intro underlying9 (And.intro tI_10 (And.intro zI_10 (And.intro underlying10 (And.intro tI_63 (And.intro zI_63 (And.intro eI_63 (And.intro eB_63 (And.intro eZ_63 (And.intro underlying63 (And.intro tI_67 zI_67))))))))))))))))))))))))))))))))))))))
theorem c_impl_NameValid (s : ByteArray) (st : zy7) : zq7 prog 64 [.str s] st (fun r st' => r = .bool (nameValid s) ∧ st' = st) := by
  refine zw6 [] func64 ntmps64 rfl rfl (by kernel_rfl) (by decide +kernel) (by show 1 ≤ _; decide +kernel) ?_
  intro _
  repeat' (first
    | (simp -implicitDefEqProofs only [*, evE, ↓evZ2, ↓evZ3, ↓Int.cast_ofNat_Int, implies_true, zy2, aFn, List.contains, List.elem, zq3, zy1, zq2, sub, zx3, zw2, zw3, zy3, gd, zq1, zw0, zq0, zx0, zx2, zx1, zy0, zw1, List.range', ↓reduceIte, reduceCtorEq, Nat.reduceEqDiff, Nat.reduceAdd, Nat.reduceLeDiff, Nat.reduceMul, Nat.reduceLT, Nat.reduceBEq, Int.reduceEq, tf_Gs3_64])
    | (refine zx4 (fun h => ?_) (fun h => ?_))
    | (refine (c_isLetters s st).to ?_) | (refine (c_symbols st).to ?_) | (refine (c_ContainsS' signs s st).to ?_)
    | (refine zq4 (fun h => ?_) (fun h => ?_)))
  all_goals simp only [nameValid, *, Bool.not_false, Bool.true_or, Bool.false_or]
abbrev tf_Gs3_81 := And.intro tI_2 (And.intro zI_2 (And.intro underlying2 (And.intro tI_3 (And.intro zI_3 (And.intro underlying3 (And.intro tI_4 (And.intro zI_4 (And.intro underlying4 (And.intro tI_6 (And.intro zI_6 (And.intro underlying6 (And.intro tI_7 (And.intro zI_7 (And.intro fI_7_0 (And.intro fI_7_1 (And.intro fI_7_2 (And.intro fI_7_3 (And.intro bI_7 (And.intro tI_8 (And.intro zI_8 (And.intro fI_8_0 (And.intro fI_8_1 (And.intro fI_8_2 (And.intro fI_8_3 (And.intro bI_8 (And.intro tI_9 (And.intro zI_9 (And.intro underlying9 (And.intro tI_10 (And.intro zI_10 (And.intro underlying10 (And.intro tI_63 (And.intro zI_63 (And.intro eI_63 (And.intro eB_63 (And.intro eZ_63 underlying63))))))))))))))))))))))))))))))))))))
theorem c_spec_NameValid (s : ByteArray) (st : zy7) : zq7 prog 81 [.str s] st (fun r st' => r = .bool (nameValid s) ∧ st' = st) := by
  refine zw6 [] func81 ntmps81 rfl rfl (by kernel_rfl) (by decide +kernel) (by show 1 ≤ _; decide +kernel) ?_
  intro _
  repeat' (first
    | (simp -implicitDefEqProofs only [*, evE, ↓evZ2, ↓evZ3, ↓Int.cast_ofNat_Int, implies_true, zy2, aFn, List.contains, List.elem, zq3, zy1, zq2, sub, zx3, zw2, zw3, zy3, gd, zq1, zw0, zq0, zx0, zx2, zx1, zy0, zw1, List.range', ↓reduceIte, reduceCtorEq, Nat.reduceEqDiff, Nat.reduceAdd, Nat.reduceLeDiff, Nat.reduceMul, Nat.reduceLT, Nat.reduceBEq, Int.reduceEq, tf_Gs3_81])
    | (refine zx4 (fun h => ?_) (fun h => ?_))
    | (refine (c_l1Word s st).to ?_) | (refine (c_l1Signs st).to ?_) | (refine (c_l1Has' signs s st).to ?_)
    | (refine zq4 (fun h => ?_) (fun h => ?_)))
  all_goals simp only [nameValid, any_swap, *, Bool.not_false, Bool.true_or, Bool.false_or]
end Go.AW

/- Valid terms as data. -/
namespace Go.AW
def ownOk (k n : Int) (s : ByteArray) (len : Int) : Bool :=
  cond (decide (k = 1)) (decide ((0 : Int) ≤ n) && decide (n ≤ 25) && decide (s = ⟨#[]⟩) && decide (len = 0))
    (cond (decide (k = 2)) (decide ((-999 : Int) ≤ n) && decide (n ≤ 999) && decide (s = ⟨#[]⟩) && decide (len = 0))
      (cond (decide (k = 3)) (decide (n = 0) && nameValid s && decide (len ≤ 4)) false))
mutual
def Tm.shape : Tm → Int → Bool
  | .mk k n s ts, d => decide (1 ≤ d) && ownOk k n s ts.length && tmsShape ts (d - 1)
def tmsShape : List Tm → Int → Bool
  | [], _ => true
  | t :: ts, d => t.shape d && tmsShape ts d
end
theorem tmsShape_all : ∀ (ts : List Tm) (d : Int), tmsShape ts d = ts.all fun t => t.shape d
  | [], _ => rfl
  | t :: ts, d => by simp only [tmsShape, List.all_cons, tmsShape_all ts d]
theorem Tm.shape_mk (k n : Int) (s : ByteArray) (ts : List Tm) (d : Int) : (Tm.mk k n s ts).shape d = (decide (1 ≤ d) && ownOk k n s ts.length && ts.all fun t => t.shape (d - 1)) := by simp only [Tm.shape, tmsShape_all]
mutual
def Tm.nodes : Tm → Nat
  | .mk _ _ _ ts => 1 + tmsNodes ts
def tmsNodes : List Tm → Nat
  | [] => 0
  | t :: ts => t.nodes + tmsNodes ts
end
theorem tmsNodes_sum : ∀ (ts : List Tm), tmsNodes ts = sumL Tm.nodes ts
  | [] => rfl
  | t :: ts => by simp only [tmsNodes, sumL, tmsNodes_sum ts]
theorem Tm.nodes_mk (k n : Int) (s : ByteArray) (ts : List Tm) : (Tm.mk k n s ts).nodes = 1 + sumL Tm.nodes ts := by simp only [Tm.nodes, tmsNodes_sum]
def Tm.valid (t : Tm) : Bool := t.shape 30 && decide (t.nodes ≤ 120)
end Go.AW

/- Variables of terms, as data; what grows beside a block of its own. -/
namespace Go.AW
set_option linter.unusedSimpArgs false
mutual
def Tm.vars : Tm → List Int → List Int
  | .mk k n _ ts, l => tmsVars ts (if k = 1 ∧ n ∉ l then l ++ [n] else l)
def tmsVars : List Tm → List Int → List Int
  | [], l => l
  | t :: ts, l => tmsVars ts (t.vars l)
end
mutual
theorem Tm.vars_len : ∀ (t : Tm) (l : List Int), (t.vars l).length ≤ l.length + t.nodes
  | .mk k n s ts, l => by
    have h := tmsVars_len ts (if k = 1 ∧ n ∉ l then l ++ [n] else l)
    have h2 : (if k = 1 ∧ n ∉ l then l ++ [n] else l).length ≤ l.length + 1 := by split <;> simp
    rw [Tm.vars, Tm.nodes_mk]
    omega
theorem tmsVars_len : ∀ (ts : List Tm) (l : List Int), (tmsVars ts l).length ≤ l.length + sumL Tm.nodes ts
  | [], l => by simp [tmsVars, sumL]
  | t :: ts, l => by
    have h1 := Tm.vars_len t l
    have h2 := tmsVars_len ts (t.vars l)
    simp only [tmsVars, sumL]
    omega
end
theorem accS_upd {st : zy7} {b x : Nat} {l : List AV} {o : AO} (h : l ≠ [] → x ≠ b) : (accS st b l).upd x o = accS (st.upd x o) b l := by
  cases l with
  | nil => rfl
  | cons y l => exact zy7.upd_comm _ _ _ (Ne.symm (h (by simp)))
theorem acc_at {P : Program} {t : TypeId} {ag : Bool} {w b i : Nat} {l : List AV} {x : AV} (hI : eI P t = some (ag, w)) (h : l[i]? = some x) : aIndexAddr P t (accV w b l) (.int .i64 (i : Int)) = some (.ptr b (i * w)) := by
  have hi := (List.getElem?_eq_some_iff.1 h).1
  rw [accV_cons (by rintro rfl; simp at hi)]
  exact held_at hI hi
theorem acc_blk {st : zy7} {b i : Nat} {l : List Int} {x : Int} (h : l[i]? = some x) : accS st b (l.map iv) b = some (.cells (l.map iv)) ∧ (l.map iv)[i]? = some (iv x) := by
  have hi := (List.getElem?_eq_some_iff.1 h).1
  have hne : l.map iv ≠ [] := by rintro e; rw [List.map_eq_nil_iff] at e; subst e; simp at hi
  have hfl : (l.map iv).flatMap AV.cells = l.map iv := by
    clear h hi hne
    induction l with
    | nil => rfl
    | cons y l ih => simp only [List.map_cons, List.flatMap_cons, ih]; rfl
  exact ⟨by rw [accS_cons hne, hfl, zy7.upd_same], by rw [List.getElem?_map, h]; rfl⟩
mutual
def Tm.wf : Tm → Bool
  | .mk k _ _ ts => (!decide (k = 1) || ts.isEmpty) && tmsWf ts
def tmsWf : List Tm → Bool
  | [] => true
  | t :: ts => t.wf && tmsWf ts
end
theorem tmsWf_all : ∀ (ts : List Tm), tmsWf ts = ts.all Tm.wf
  | [] => rfl
  | t :: ts => by simp only [tmsWf, List.all_cons, tmsWf_all ts]
theorem Tm.wf_mk {k n : Int} {s : ByteArray} {ts : List Tm} (h : (Tm.mk k n s ts).wf = true) : (k = 1 → ts = []) ∧ ∀ x ∈ ts, x.wf = true := by
  simp only [Tm.wf, tmsWf_all, Bool.and_eq_true, Bool.or_eq_true, Bool.not_eq_true', decide_eq_false_iff_not, List.isEmpty_iff, List.all_eq_true] at h
  exact ⟨fun hk => h.1.resolve_left (fun hn => hn hk), h.2⟩
theorem Tm.valid_nodes {t : Tm} (h : t.valid = true) : t.nodes ≤ 120 := by simp only [Tm.valid, Bool.and_eq_true, decide_eq_true_eq] at h; exact h.2
end Go.AW

/- A struct's list that grows in its memory. -/
namespace Go.AW
set_option linter.unusedSimpArgs false
def kidS (S : zy7) (c b : Nat) (hd : List AV) (l : List AV) : zy7 := accS (S.upd c (.cells (hd ++ [accV 4 b l]))) b l
theorem kidS_c {S : zy7} {c b : Nat} {hd l : List AV} (hb : l ≠ [] → (S.upd c (.cells (hd ++ [accV 4 b l]))) b = none) : kidS S c b hd l c = some (.cells (hd ++ [accV 4 b l])) := by
  unfold kidS
  cases l with
  | nil => simp only [accS, zy7.upd_same]
  | cons y l =>
    have h := hb (by simp)
    have hne : c ≠ b := fun e => by rw [← e, zy7.upd_same] at h; cases h
    rw [accS_ne hne, zy7.upd_same]
theorem kidS_set {S : zy7} {c b b' : Nat} {hd l l' : List AV} (hb : l' ≠ [] → (S.upd c (.cells (hd ++ [accV 4 b l]))) b' = none) :
    (accS (S.upd c (.cells (hd ++ [accV 4 b l]))) b' l').upd c (.cells (hd ++ [accV 4 b' l'])) = kidS S c b' hd l' ∧ (l' ≠ [] → (S.upd c (.cells (hd ++ [accV 4 b' l']))) b' = none) ∧ accS (S.upd c (.cells (hd ++ [accV 4 b l]))) b' l' c = some (.cells (hd ++ [accV 4 b l])) := by
  have hne : l' ≠ [] → c ≠ b' := fun h e => by have := hb h; rw [← e, zy7.upd_same] at this; cases this
  refine ⟨?_, fun h => ?_, ?_⟩
  · rw [accS_upd hne, zy7.upd_upd]; rfl
  · have := hb h
    rw [zy7.upd_ne _ _ (Ne.symm (hne h))] at this ⊢
    exact this
  · cases l' with
    | nil => simp only [accS, zy7.upd_same]
    | cons y l => rw [accS_ne (hne (by simp)), zy7.upd_same]
theorem kidS_ne {S : zy7} {c b x : Nat} {hd l : List AV} (hb : l ≠ [] → (S.upd c (.cells (hd ++ [accV 4 b l]))) b = none) (hx : S x ≠ none) (hxc : x ≠ c) : kidS S c b hd l x = S x := by
  unfold kidS
  cases l with
  | nil => simp only [accS, zy7.upd_ne _ _ hxc]
  | cons y l =>
    have h := hb (by simp)
    have hne : x ≠ b := fun e => by
      rw [← e, zy7.upd_ne _ _ hxc] at h
      exact hx h
    rw [accS_ne hne, zy7.upd_ne _ _ hxc]
theorem kidS_upd {S : zy7} {c b x : Nat} {hd l : List AV} {o : AO} (hb : l ≠ [] → (S.upd c (.cells (hd ++ [accV 4 b l]))) b = none) (hx : S x ≠ none) (hxc : x ≠ c) : (kidS S c b hd l).upd x o = accS ((S.upd c (.cells (hd ++ [accV 4 b l]))).upd x o) b l ∧ (l ≠ [] → ((S.upd c (.cells (hd ++ [accV 4 b l]))).upd x o) b = none) := by
  have hne : l ≠ [] → x ≠ b := fun h e => by
    have := hb h
    rw [← e, zy7.upd_ne _ _ hxc] at this
    exact hx this
  refine ⟨by unfold kidS; rw [accS_upd hne], fun h => by rw [zy7.upd_ne _ _ (Ne.symm (hne h))]; exact hb h⟩
theorem kidS_beside {S : zy7} {c b x : Nat} {hd l : List AV} {o : AO} (hb : l ≠ [] → (S.upd c (.cells (hd ++ [accV 4 b l]))) b = none) (hx : S x ≠ none) (hxc : x ≠ c) :
    (kidS S c b hd l).upd x o = kidS (S.upd x o) c b hd l ∧ (l ≠ [] → ((S.upd x o).upd c (.cells (hd ++ [accV 4 b l]))) b = none) := by
  have hne : l ≠ [] → x ≠ b := fun h e => by
    have := hb h
    rw [← e, zy7.upd_ne _ _ hxc] at this
    exact hx this
  refine ⟨by unfold kidS; rw [accS_upd hne, zy7.upd_comm _ _ _ (Ne.symm hxc)], fun h => ?_⟩
  have := hb h
  rw [zy7.upd_comm _ _ _ hxc, zy7.upd_ne _ _ (Ne.symm (hne h))]
  exact this
theorem kidS_gone {S T : zy7} {c b : Nat} {hd l : List AV} (D : Drops (S.upd c (.cells (hd ++ [accV 4 b l]))) T) (hb : l ≠ [] → (S.upd c (.cells (hd ++ [accV 4 b l]))) b = none) : Drops (kidS S c b hd l) T :=
  D.accS fun h => (D b).1 (hb h)
theorem zy7.upd_mid {st : zy7} {b c : Nat} {a z a' : AO} (h : b ≠ c) : ((st.upd c a).upd b z).upd c a' = (st.upd b z).upd c a' := by rw [zy7.upd_comm _ _ _ (Ne.symm h), zy7.upd_upd]
theorem tm_widths (l : List Tm) : ∀ e ∈ l.map Tm.av, e.width = 4 := by intro e h; simp only [List.mem_map] at h; obtain ⟨t, _, rfl⟩ := h; exact Tm.av_width t
theorem tm_junk (l : List Tm) : ∀ e ∈ l.map Tm.av, e.isJunk = false := by intro e h; simp only [List.mem_map] at h; obtain ⟨t, _, rfl⟩ := h; exact Tm.av_junk t
end Go.AW


namespace Go.AW
open Go.Proofs.Try
set_option linter.unusedSimpArgs false
set_option maxRecDepth 100000
mutual
def Tm.small : Tm → Bool
  | .mk _ _ _ ts => decide (ts.length ≤ 1048576) && tmsSmall ts
def tmsSmall : List Tm → Bool
  | [] => true
  | t :: ts => t.small && tmsSmall ts
end
theorem tmsSmall_all : ∀ (ts : List Tm), tmsSmall ts = ts.all Tm.small
  | [] => rfl
  | t :: ts => by simp only [tmsSmall, List.all_cons, tmsSmall_all ts]
theorem Tm.small_mk {k n : Int} {s : ByteArray} {ts : List Tm} (h : (Tm.mk k n s ts).small = true) : ts.length ≤ 1048576 ∧ ∀ x ∈ ts, x.small = true := by
  simpa [Tm.small, tmsSmall_all] using h
abbrev tf_V3_62 := And.intro tI_2 (And.intro zI_2 (And.intro underlying2 (And.intro tI_3 (And.intro zI_3 (And.intro underlying3 (And.intro tI_4 (And.intro zI_4 (And.intro underlying4 (And.intro tI_5 (And.intro zI_5 (And.intro underlying5 (And.intro tI_6 (And.intro zI_6 (And.intro underlying6 (And.intro tI_7 (And.intro zI_7 (And.intro fI_7_0 (And.intro fI_7_1 (And.intro fI_7_2 (And.intro fI_7_3 (And.intro bI_7 (And.intro tI_8 (And.intro zI_8 (And.intro fI_8_0 (And.intro fI_8_1 (And.intro fI_8_2 (And.intro fI_8_3 (And.intro bI_8 (And.intro tI_12 (And.intro zI_12 (And.intro underlying12 (And.intro tI_13 (And.intro zI_13 (And.intro fI_13_0 (And.intro fI_13_1 (And.intro bI_13 (And.intro tI_14 (And.intro zI_14 (And.intro fI_14_0 (And.intro fI_14_1 (And.intro bI_14 (And.intro tI_15 (And.intro zI_15 (And.intro tI_16 (And.intro zI_16 (And.intro tI_17 (And.intro zI_17 (And.intro tI_19 (And.intro zI_19 (And.intro fI_19_0 (And.intro bI_19 (And.intro tI_23 (And.intro zI_23 (And.intro eI_23 (And.intro eB_23 (And.intro eZ_23 (And.intro underlying23 (And.intro tI_24 (And.intro zI_24 (And.intro fI_24_0 (And.intro fI_24_1 (And.intro fI_24_2 (And.intro fI_24_3 (And.intro bI_24 (And.intro tI_25 (And.intro zI_25 (And.intro fI_25_0 (And.intro fI_25_1 (And.intro fI_25_2 (And.intro fI_25_3 bI_25))))))))))))))))))))))))))))))))))))))))))))))))))))))))))))))))))))))
theorem o_ownList (l : List Tm) (st : zy7) (hb : l.length ≤ 1048576) (hc : ∀ x ∈ l, ∀ (st : zy7), zq7 prog 24 [Tm.av x] st (Made st (Tm.av x))) :
    zq7 prog 62 [.slice (l.map Tm.av)] st (Made st (.slice (l.map Tm.av))) := by
  have hws : ∀ e ∈ l.map Tm.av, e.width = 4 := fun e he => by simp only [List.mem_map] at he; obtain ⟨t, _, rfl⟩ := he; exact Tm.av_width t
  refine zw6 [] func62 ntmps62 rfl rfl (by kernel_rfl) (by decide +kernel) (by show 1 ≤ _; decide +kernel) ?_
  intro _
  simp -implicitDefEqProofs only [List.length_map, evE, ↓evZ2, ↓evZ3, ↓Int.cast_ofNat_Int, implies_true, zy2, aFn, List.contains, List.elem, zq3, zy1, zq2, sub, zx3, zw2, zw3, zy3, gd, zq1, zw0, zq0, zx0, zx2, zx1, zy0, zw1, List.range', ↓reduceIte, reduceCtorEq, Nat.reduceEqDiff, Nat.reduceAdd, Nat.reduceLeDiff, Nat.reduceMul, Nat.reduceLT, Nat.reduceBEq, Int.reduceEq, tf_V3_62]
  refine zy5 (σ := List AV × List Nat × Nat × zy7) [] [2, 6, 7] l (fun i p => GrowTo (l.map Tm.av) st i p.1 p.2.1 p.2.2.1 p.2.2.2) (fun i p => [(3, accV 4 p.2.2.1 p.1), (8, .int .i64 i)]) (fun _ p => p.2.2.2) (by decide +kernel)
    ⟨([], [], 0, st), GrowTo.start, zx7.mk (by simp -implicitDefEqProofs only [accV_nil, evE, ↓evZ2, ↓evZ3, ↓Int.cast_ofNat_Int, implies_true, zy2, aFn, List.contains, List.elem, zq3, zy1, zq2, sub, zx3, zw2, zw3, zy3, gd, zq1, zw0, zq0, zx0, zx2, zx1, zy0, zw1, List.range', ↓reduceIte, reduceCtorEq, Nat.reduceEqDiff, Nat.reduceAdd, Nat.reduceLeDiff, Nat.reduceMul, Nat.reduceLT, Nat.reduceBEq, Int.reduceEq, tf_V3_62])⟩ (fun i x p hx hlt hlt' hdr hinv => ?_) (fun p hge hinv => ?_)
  case refine_2 =>
    obtain ⟨os, bs, b, s⟩ := p
    simp -implicitDefEqProofs only [List.length_map, hge, evE, ↓evZ2, ↓evZ3, ↓Int.cast_ofNat_Int, implies_true, zy2, aFn, List.contains, List.elem, zq3, zy1, zq2, sub, zx3, zw2, zw3, zy3, gd, zq1, zw0, zq0, zx0, zx2, zx1, zy0, zw1, List.range', ↓reduceIte, reduceCtorEq, Nat.reduceEqDiff, Nat.reduceAdd, Nat.reduceLeDiff, Nat.reduceMul, Nat.reduceLT, Nat.reduceBEq, Int.reduceEq, tf_V3_62]
    exact hinv.done (List.length_map _) hws
  obtain ⟨os, bs, b, s⟩ := p
  simp only at hinv
  have hw := wrap64 (n := (i : Int) + 1) (by omega) (by omega)
  have hset : ∀ zs : List AV, zs.length = 4 → zy4 zs 0 (Tm.av x).cells = (Tm.av x).cells := fun zs h => set_all (Tm.av_cells x) h
  simp -implicitDefEqProofs only [List.length_map, hlt', ev_at (av := Tm.av) eI_23 hx (Tm.av_width x), Tm.av_agg, Tm.av_width, Tm.av_cells, Tm.av_store, zy7.upd_upd, hset, evE, ↓evZ2, ↓evZ3, ↓Int.cast_ofNat_Int, implies_true, zy2, aFn, List.contains, List.elem, zq3, zy1, zq2, sub, zx3, zw2, zw3, zy3, gd, zq1, zw0, zq0, zx0, zx2, zx1, zy0, zw1, List.range', ↓reduceIte, reduceCtorEq, Nat.reduceEqDiff, Nat.reduceAdd, Nat.reduceLeDiff, Nat.reduceMul, Nat.reduceLT, Nat.reduceBEq, Int.reduceEq, tf_V3_62]
  intro b2 hb2
  try simp -implicitDefEqProofs only [su_eq, Tm.av_cells, take_all (Tm.av_cells x), agg_cells (Tm.av_agg x), Nat.le_refl, hset, zy7.upd_upd, Tm.av_store, evE, ↓evZ2, ↓evZ3, ↓Int.cast_ofNat_Int, implies_true, zy2, aFn, List.contains, List.elem, zq3, zy1, zq2, sub, zx3, zw2, zw3, zy3, gd, zq1, zw0, zq0, zx0, zx2, zx1, zy0, zw1, List.range', ↓reduceIte, reduceCtorEq, Nat.reduceEqDiff, Nat.reduceAdd, Nat.reduceLeDiff, Nat.reduceMul, Nat.reduceLT, Nat.reduceBEq, Int.reduceEq, tf_V3_62]
  refine (hc x (List.mem_of_getElem? hx) _).mono ?_
  rintro r s2 ⟨bx, m1, m2, m3, m4⟩
  obtain ⟨f1, f2, f3⟩ := m3.cellsFit (Tm.av_width x) (Tm.av_store x)
  have hra : r.isAgg = true := by rw [(Own.shape m3).1, Tm.av_agg]
  have hrj : r.isJunk = false := (Own.shape m3).2.2.1
  simp -implicitDefEqProofs only [f1, hra, hrj, evE, ↓evZ2, ↓evZ3, ↓Int.cast_ofNat_Int, implies_true, zy2, aFn, List.contains, List.elem, zq3, zy1, zq2, sub, zx3, zw2, zw3, zy3, gd, zq1, zw0, zq0, zx0, zx2, zx1, zy0, zw1, List.range', ↓reduceIte, reduceCtorEq, Nat.reduceEqDiff, Nat.reduceAdd, Nat.reduceLeDiff, Nat.reduceMul, Nat.reduceLT, Nat.reduceBEq, Int.reduceEq, tf_V3_62]
  have hlen : os.length = i := hinv.1
  have hosw : ∀ e ∈ os, e.width = 4 := fun e he => by
    obtain ⟨k, hk, rfl⟩ := List.getElem_of_mem he
    exact hinv.2.1.widths (fun q hq => hws q (List.mem_of_mem_take hq)) _ he
  have hkb : os ≠ [] → s2 b = some (.cells (os.flatMap AV.cells)) := fun hne => by
    have h := (hinv.2.2.2.2.1 hne).2.2
    have hbx : b ∉ bx := fun hq => by
      have := m2 b hq
      have hne2 : b ≠ b2 := fun e => by rw [e, hb2] at h; cases h
      rw [zy7.upd_ne _ _ hne2, h] at this; cases this
    have hne2 : b ≠ b2 := fun e => by rw [e, hb2] at h; cases h
    rw [m4 b hbx, zy7.upd_ne _ _ hne2, h]
  refine acc_appendG eI_23 eB_23 eZ_23 rfl rfl (by intro e he; simp only [List.mem_cons, List.not_mem_nil, or_false] at he; subst he; exact ⟨f1, f3⟩) hosw hkb (by simp only [List.length_cons, List.length_nil, hlen]; omega) (by simp only [List.length_cons, List.length_nil, hlen]; omega) (fun b' s' k1 k2 k3 k4 => ?_)
  have hstep := hinv.step hb2 (show (l.map Tm.av)[i]? = some (Tm.av x) by rw [List.getElem?_map, hx]; rfl) m1 m2 m3 m4 (k1 (by simp)) (k2 (by simp)) (fun q h1 h2 => k3 q (fun _ => h1) h2) k4
  simp -implicitDefEqProofs only [hw, evE, ↓evZ2, ↓evZ3, ↓Int.cast_ofNat_Int, implies_true, zy2, aFn, List.contains, List.elem, zq3, zy1, zq2, sub, zx3, zw2, zw3, zy3, gd, zq1, zw0, zq0, zx0, zx2, zx1, zy0, zw1, List.range', ↓reduceIte, reduceCtorEq, Nat.reduceEqDiff, Nat.reduceAdd, Nat.reduceLeDiff, Nat.reduceMul, Nat.reduceLT, Nat.reduceBEq, Int.reduceEq, tf_V3_62]
  exact ⟨(os ++ [r], bs ++ bx, b', s'.erase b2), hstep, zx7.drop (Drops.erase' _ _) (by simp -implicitDefEqProofs only [evE, ↓evZ2, ↓evZ3, ↓Int.cast_ofNat_Int, implies_true, zy2, aFn, List.contains, List.elem, zq3, zy1, zq2, sub, zx3, zw2, zw3, zy3, gd, zq1, zw0, zq0, zx0, zx2, zx1, zy0, zw1, List.range', ↓reduceIte, reduceCtorEq, Nat.reduceEqDiff, Nat.reduceAdd, Nat.reduceLeDiff, Nat.reduceMul, Nat.reduceLT, Nat.reduceBEq, Int.reduceEq, tf_V3_62])⟩
abbrev tf_V3_24 := And.intro tI_2 (And.intro zI_2 (And.intro underlying2 (And.intro tI_3 (And.intro zI_3 (And.intro underlying3 (And.intro tI_4 (And.intro zI_4 (And.intro underlying4 (And.intro tI_5 (And.intro zI_5 (And.intro underlying5 (And.intro tI_8 (And.intro zI_8 (And.intro fI_8_0 (And.intro fI_8_1 (And.intro fI_8_2 (And.intro fI_8_3 (And.intro bI_8 (And.intro tI_23 (And.intro zI_23 (And.intro eI_23 (And.intro eB_23 (And.intro eZ_23 (And.intro underlying23 (And.intro tI_25 (And.intro zI_25 (And.intro fI_25_0 (And.intro fI_25_1 (And.intro fI_25_2 (And.intro fI_25_3 bI_25))))))))))))))))))))))))))))))
theorem o_own : ∀ (t : Tm) (st : zy7), t.small = true → zq7 prog 24 [t.av] st (Made st t.av)
  | .mk k n s ts, st, hb => by
    obtain ⟨hb1, hb2⟩ := Tm.small_mk hb
    have hc := fun st => o_ownList ts st hb1 fun x hx st => o_own x st (hb2 x hx)
    refine zq7.madeJ ?_
    refine zw6 [1] func24 ntmps24 rfl rfl (by kernel_rfl) (by decide +kernel) (by show 1 ≤ _; decide +kernel) ?_
    intro _
    simp only [Tm.av_mk]
    simp -implicitDefEqProofs only [evE, ↓evZ2, ↓evZ3, ↓Int.cast_ofNat_Int, implies_true, zy2, aFn, List.contains, List.elem, zq3, zy1, zq2, sub, zx3, zw2, zw3, zy3, gd, zq1, zw0, zq0, zx0, zx2, zx1, zy0, zw1, List.range', ↓reduceIte, reduceCtorEq, Nat.reduceEqDiff, Nat.reduceAdd, Nat.reduceLeDiff, Nat.reduceMul, Nat.reduceLT, Nat.reduceBEq, Int.reduceEq, tf_V3_24]
    intro b hb1' b2 hb2'
    have hne : b2 ≠ b := by rintro rfl; rw [zy7.upd_same] at hb2'; cases hb2'
    have hn2 : st b2 = none := by rw [zy7.upd_ne st _ hne] at hb2'; exact hb2'
    simp -implicitDefEqProofs only [su_eq, hne, hne.symm, zy4, zy7.upd_upd, evE, ↓evZ2, ↓evZ3, ↓Int.cast_ofNat_Int, implies_true, zy2, aFn, List.contains, List.elem, zq3, zy1, zq2, sub, zx3, zw2, zw3, zy3, gd, zq1, zw0, zq0, zx0, zx2, zx1, zy0, zw1, List.range', ↓reduceIte, reduceCtorEq, Nat.reduceEqDiff, Nat.reduceAdd, Nat.reduceLeDiff, Nat.reduceMul, Nat.reduceLT, Nat.reduceBEq, Int.reduceEq, tf_V3_24]
    refine (hc _).mono ?_
    rintro q s2 ⟨bs, m1, m2, m3, m4⟩
    have hbb : b ∉ bs := fun h => by have := m2 b h; simp [su_eq, hne, hne.symm] at this
    have hbb2 : b2 ∉ bs := fun h => by have := m2 b2 h; simp [su_eq] at this
    have e1 := m4 b hbb
    have e2 := m4 b2 hbb2
    simp only [su_eq, hne, hne.symm, if_true, if_false] at e1 e2
    have hqc : q.cells = [q] := by have := (Own.shape m3).1; cases q <;> first | rfl | simp [AV.isAgg] at this
    have hqs : q.storable = true := by
      have := m3
      simp only [Own] at this
      rcases this with ⟨_, rfl, _⟩ | ⟨_, _, _, _, rfl, _⟩ <;> rfl
    simp -implicitDefEqProofs only [su_eq, hne, hne.symm, e1, e2, hqc, hqs, zy4, zy7.upd_upd, evE, ↓evZ2, ↓evZ3, ↓Int.cast_ofNat_Int, implies_true, zy2, aFn, List.contains, List.elem, zq3, zy1, zq2, sub, zx3, zw2, zw3, zy3, gd, zq1, zw0, zq0, zx0, zx2, zx1, zy0, zw1, List.range', ↓reduceIte, reduceCtorEq, Nat.reduceEqDiff, Nat.reduceAdd, Nat.reduceLeDiff, Nat.reduceMul, Nat.reduceLT, Nat.reduceBEq, Int.reduceEq, tf_V3_24]
    refine ⟨[b, b2], bs, m1, fun x hx => ?_, ?_, ?_, ?_⟩
    · have := m2 x hx
      have h1 : x ≠ b := fun e => hbb (e ▸ hx)
      have h2 : x ≠ b2 := fun e => hbb2 (e ▸ hx)
      simpa [su_eq, h1, h2] using this
    · simp [hb1', hn2, hbb, hbb2]
    · rw [← Tm.av_mk]
      refine own_Tm.2 ⟨q, rfl, Own.keep _ _ _ (fun x hx => ?_) m3⟩
      have h1 : x ≠ b := fun e => hbb (e ▸ hx)
      have h2 : x ≠ b2 := fun e => hbb2 (e ▸ hx)
      simp only [su_eq, h1, h2, if_false]
    · intro x hx hd
      simp only [List.mem_cons, List.not_mem_nil, or_false, not_or] at hd
      simp only [su_eq, hd.1, hd.2, if_false]
      rw [m4 x hx]
      simp only [su_eq, hd.1, hd.2, if_false]
termination_by t => SizeOf.sizeOf t
decreasing_by have := List.sizeOf_lt_of_mem hx; simp only [Tm.mk.sizeOf_spec]; omega
end Go.AW


namespace Go.AW
open Go.Proofs.Try
set_option linter.unusedSimpArgs false
set_option maxRecDepth 100000
abbrev tf_V5_30 := And.intro tI_2 (And.intro zI_2 (And.intro underlying2 (And.intro tI_3 (And.intro zI_3 (And.intro underlying3 (And.intro tI_4 (And.intro zI_4 (And.intro underlying4 (And.intro tI_5 (And.intro zI_5 (And.intro underlying5 (And.intro tI_6 (And.intro zI_6 (And.intro underlying6 (And.intro tI_9 (And.intro zI_9 (And.intro underlying9 (And.intro tI_12 (And.intro zI_12 (And.intro underlying12 (And.intro tI_14 (And.intro zI_14 (And.intro fI_14_0 (And.intro fI_14_1 (And.intro bI_14 (And.intro tI_15 (And.intro zI_15 (And.intro tI_23 (And.intro zI_23 (And.intro eI_23 (And.intro eB_23 (And.intro eZ_23 (And.intro underlying23 (And.intro tI_25 (And.intro zI_25 (And.intro fI_25_0 (And.intro fI_25_1 (And.intro fI_25_2 (And.intro fI_25_3 (And.intro bI_25 (And.intro tI_27 (And.intro zI_27 (And.intro eI_27 (And.intro eB_27 (And.intro eZ_27 underlying27)))))))))))))))))))))))))))))))))))))))))))))
theorem c_l1Copy : ∀ (t : Tm) (st : zy7), t.small = true → zq7 prog 30 [t.av] st (fun r st' => r = t.av ∧ st' = st)
  | .mk k n s ts, st, hsm => by
    obtain ⟨hlen, hsms⟩ := Tm.small_mk hsm
    have IH := fun (x : Tm) (hx : x ∈ ts) st => c_l1Copy x st (hsms x hx)
    refine zq7.drop2 (zq7.fin ?_)
    simp only [Tm.av_mk]
    refine zw6 [] func30 ntmps30 rfl rfl (by kernel_rfl) (by decide +kernel) (by show 1 ≤ _; decide +kernel) ?_
    simp only [fitsL, AV.fits, and_true, List.length_map]
    intro ⟨_, _, _, hl, _⟩
    simp -implicitDefEqProofs only [evE, ↓evZ2, ↓evZ3, ↓Int.cast_ofNat_Int, implies_true, zy2, aFn, List.contains, List.elem, zq3, zy1, zq2, sub, zx3, zw2, zw3, zy3, gd, zq1, zw0, zq0, zx0, zx2, zx1, zy0, zw1, List.range', ↓reduceIte, reduceCtorEq, Nat.reduceEqDiff, Nat.reduceAdd, Nat.reduceLeDiff, Nat.reduceMul, Nat.reduceLT, Nat.reduceBEq, Int.reduceEq, tf_V5_30]
    intro b2 hb2 c hc
    have hne : c ≠ b2 := by rintro rfl; rw [zy7.upd_same] at hc; cases hc
    have hn2 : st c = none := by rw [zy7.upd_ne st _ hne] at hc; exact hc
    simp -implicitDefEqProofs only [zy7.upd_upd, zy4, evE, ↓evZ2, ↓evZ3, ↓Int.cast_ofNat_Int, implies_true, zy2, aFn, List.contains, List.elem, zq3, zy1, zq2, sub, zx3, zw2, zw3, zy3, gd, zq1, zw0, zq0, zx0, zx2, zx1, zy0, zw1, List.range', ↓reduceIte, reduceCtorEq, Nat.reduceEqDiff, Nat.reduceAdd, Nat.reduceLeDiff, Nat.reduceMul, Nat.reduceLT, Nat.reduceBEq, Int.reduceEq, tf_V5_30]
    refine zy5 (σ := Nat) [] [1, 2, 3] ts (fun i b => (((ts.take i).map (fun y => y)).map Tm.av ≠ [] → (zy7.upd (st.upd b2 (.cells [AV.int .i64 0, AV.int .i64 0, AV.str ⟨#[]⟩, AV.fslice []])) c (.cells ([AV.int .i64 k, AV.int .i64 n, AV.str s] ++ [accV 4 b (((ts.take i).map (fun y => y)).map Tm.av)]))) b = none)) (fun i b => [(4, .int .i64 i)]) (fun i b => kidS (st.upd b2 (.cells [AV.int .i64 0, AV.int .i64 0, AV.str ⟨#[]⟩, AV.fslice []])) c b [AV.int .i64 k, AV.int .i64 n, AV.str s] (((ts.take i).map (fun y => y)).map Tm.av)) (by decide +kernel)
      ⟨0, fun h => absurd rfl h, zx7.mk (by simp -implicitDefEqProofs only [List.length_map, evE, ↓evZ2, ↓evZ3, ↓Int.cast_ofNat_Int, implies_true, zy2, aFn, List.contains, List.elem, zq3, zy1, zq2, sub, zx3, zw2, zw3, zy3, gd, zq1, zw0, zq0, zx0, zx2, zx1, zy0, zw1, List.range', ↓reduceIte, reduceCtorEq, Nat.reduceEqDiff, Nat.reduceAdd, Nat.reduceLeDiff, Nat.reduceMul, Nat.reduceLT, Nat.reduceBEq, Int.reduceEq, tf_V5_30])⟩ (fun i x b hx hlt hlt' hdr hinv => ?_) (fun b hge hinv => ?_)
    case refine_1 =>
      have hw := wrap64 (n := (i : Int) + 1) (by omega) (by omega)
      have hlen' : (((ts.take i).map (fun y => y)).map Tm.av).length = i := by simp only [List.length_map, List.length_take]; omega
      have htk : (ts.take (i + 1)).map (fun y => y) = (ts.take i).map (fun y => y) ++ [(fun y => y) x] := by rw [List.take_add_one, hx]; simp
      have hbo := kidS_c hinv
      simp -implicitDefEqProofs only [List.length_map, hlt', Nat.zero_add, evE, ↓evZ2, ↓evZ3, ↓Int.cast_ofNat_Int, implies_true, zy2, aFn, List.contains, List.elem, zq3, zy1, zq2, sub, zx3, zw2, zw3, zy3, gd, zq1, zw0, zq0, zx0, zx2, zx1, zy0, zw1, List.range', ↓reduceIte, reduceCtorEq, Nat.reduceEqDiff, Nat.reduceAdd, Nat.reduceLeDiff, Nat.reduceMul, Nat.reduceLT, Nat.reduceBEq, Int.reduceEq, tf_V5_30]
      refine zx5 [(0, 1), (2, 1), (4, 1), (1, 2), (3, 2), (5, 1), (6, 2), (7, 2), (8, 1), (9, 0), (10, 1), (11, 0)] [0, 2, 4, 1, 3, 5, 6, 7, 8, 10] mixed (by decide +kernel) (by decide +kernel) (by decide +kernel) ?_
      simp -implicitDefEqProofs only [ev_at (av := Tm.av) eI_23 hx (Tm.av_width x), Tm.av_agg, Tm.av_width, hbo, accV_agg, accV_width, Nat.zero_add, evE, ↓evZ2, ↓evZ3, ↓Int.cast_ofNat_Int, implies_true, zy2, aFn, List.contains, List.elem, zq3, zy1, zq2, sub, zx3, zw2, zw3, zy3, gd, zq1, zw0, zq0, zx0, zx2, zx1, zy0, zw1, List.range', ↓reduceIte, reduceCtorEq, Nat.reduceEqDiff, Nat.reduceAdd, Nat.reduceLeDiff, Nat.reduceMul, Nat.reduceLT, Nat.reduceBEq, Int.reduceEq, tf_V5_30]
      refine zw4 (IH x (List.mem_of_getElem? hx) _) ?_
      simp -implicitDefEqProofs only [Tm.av_agg, Tm.av_width, Tm.av_junk, hbo, accV_agg, accV_width, Nat.zero_add, evE, ↓evZ2, ↓evZ3, ↓Int.cast_ofNat_Int, implies_true, zy2, aFn, List.contains, List.elem, zq3, zy1, zq2, sub, zx3, zw2, zw3, zy3, gd, zq1, zw0, zq0, zx0, zx2, zx1, zy0, zw1, List.range', ↓reduceIte, reduceCtorEq, Nat.reduceEqDiff, Nat.reduceAdd, Nat.reduceLeDiff, Nat.reduceMul, Nat.reduceLT, Nat.reduceBEq, Int.reduceEq, tf_V5_30]
      refine acc_append eI_23 eB_23 eZ_23 rfl rfl (by intro e he; simp only [List.mem_cons, List.not_mem_nil, or_false] at he; subst he; exact ⟨Tm.av_width _, Tm.av_store _⟩) (tm_widths _) hinv (by simp only [hlen', List.length_cons, List.length_nil]; omega) (by simp only [hlen', List.length_cons, List.length_nil]; omega) (fun b' hb' => ?_)
      rw [show (((ts.take i).map (fun y => y)).map Tm.av) ++ [((fun y => y) x).av] = ((ts.take (i + 1)).map (fun y => y)).map Tm.av by rw [htk]; simp] at hb' ⊢
      obtain ⟨g1, g2, g3⟩ := kidS_set hb'
      simp only [List.cons_append, List.nil_append] at g1 g3
      simp -implicitDefEqProofs only [g3, accV_cells, accV_store, zy4, Nat.le_refl, g1, hw, evE, ↓evZ2, ↓evZ3, ↓Int.cast_ofNat_Int, implies_true, zy2, aFn, List.contains, List.elem, zq3, zy1, zq2, sub, zx3, zw2, zw3, zy3, gd, zq1, zw0, zq0, zx0, zx2, zx1, zy0, zw1, List.range', ↓reduceIte, reduceCtorEq, Nat.reduceEqDiff, Nat.reduceAdd, Nat.reduceLeDiff, Nat.reduceMul, Nat.reduceLT, Nat.reduceBEq, Int.reduceEq, tf_V5_30]
      exact ⟨b', g2, zx7.mk (by simp -implicitDefEqProofs only [evE, ↓evZ2, ↓evZ3, ↓Int.cast_ofNat_Int, implies_true, zy2, aFn, List.contains, List.elem, zq3, zy1, zq2, sub, zx3, zw2, zw3, zy3, gd, zq1, zw0, zq0, zx0, zx2, zx1, zy0, zw1, List.range', ↓reduceIte, reduceCtorEq, Nat.reduceEqDiff, Nat.reduceAdd, Nat.reduceLeDiff, Nat.reduceMul, Nat.reduceLT, Nat.reduceBEq, Int.reduceEq, tf_V5_30])⟩
    have hbo := kidS_c hinv
    rw [List.take_length] at hinv hbo ⊢
    simp -implicitDefEqProofs only [List.length_map, hge, evE, ↓evZ2, ↓evZ3, ↓Int.cast_ofNat_Int, implies_true, zy2, aFn, List.contains, List.elem, zq3, zy1, zq2, sub, zx3, zw2, zw3, zy3, gd, zq1, zw0, zq0, zx0, zx2, zx1, zy0, zw1, List.range', ↓reduceIte, reduceCtorEq, Nat.reduceEqDiff, Nat.reduceAdd, Nat.reduceLeDiff, Nat.reduceMul, Nat.reduceLT, Nat.reduceBEq, Int.reduceEq, tf_V5_30]
    simp -implicitDefEqProofs only [hbo, evE, ↓evZ2, ↓evZ3, ↓Int.cast_ofNat_Int, implies_true, zy2, aFn, List.contains, List.elem, zq3, zy1, zq2, sub, zx3, zw2, zw3, zy3, gd, zq1, zw0, zq0, zx0, zx2, zx1, zy0, zw1, List.range', ↓reduceIte, reduceCtorEq, Nat.reduceEqDiff, Nat.reduceAdd, Nat.reduceLeDiff, Nat.reduceMul, Nat.reduceLT, Nat.reduceBEq, Int.reduceEq, tf_V5_30]
    have hb2c : b2 ≠ c := Ne.symm hne
    have hS : (st.upd b2 (.cells [AV.int .i64 0, AV.int .i64 0, AV.str ⟨#[]⟩, AV.fslice []])) b2 ≠ none := by rw [zy7.upd_same]; simp
    have h1 := kidS_ne hinv hS hb2c
    rw [zy7.upd_same] at h1
    simp -implicitDefEqProofs only [h1, accV_store, accV_cells, zy4, Nat.le_refl, evE, ↓evZ2, ↓evZ3, ↓Int.cast_ofNat_Int, implies_true, zy2, aFn, List.contains, List.elem, zq3, zy1, zq2, sub, zx3, zw2, zw3, zy3, gd, zq1, zw0, zq0, zx0, zx2, zx1, zy0, zw1, List.range', ↓reduceIte, reduceCtorEq, Nat.reduceEqDiff, Nat.reduceAdd, Nat.reduceLeDiff, Nat.reduceMul, Nat.reduceLT, Nat.reduceBEq, Int.reduceEq, tf_V5_30]
    obtain ⟨h2, h3⟩ := kidS_upd (o := .cells [AV.int .i64 k, AV.int .i64 n, AV.str s, accV 4 b ((ts.map fun y => y).map Tm.av)]) hinv hS hb2c
    refine ⟨b, _, _, h2, h3, tm_junk _, ⟨4, tm_widths _⟩, ?_, ?_⟩
    · simp only [fin_agg, List.map_cons, List.map_nil, fin_int, fin_str, accV_fin, List.map_id']
    · exact (((Drops.refl _).upd hb2).upd hn2).upd hb2
termination_by t => SizeOf.sizeOf t
decreasing_by have := List.sizeOf_lt_of_mem hx; simp only [Tm.mk.sizeOf_spec]; omega
end Go.AW

/- Substitutions, variables that are walked, unification: plain data. -/
namespace Go.AW
set_option linter.unusedSimpArgs false
set_option linter.unusedVariables false
def Tm.k : Tm → Int | .mk k _ _ _ => k
def Tm.n : Tm → Int | .mk _ n _ _ => n
def Tm.s : Tm → ByteArray | .mk _ _ s _ => s
def Tm.ts : Tm → List Tm | .mk _ _ _ ts => ts
theorem Tm.eta (t : Tm) : t = .mk t.k t.n t.s t.ts := by cases t; rfl
def vr (n : Int) : Tm := .mk 1 n ⟨#[]⟩ []
mutual
def Tm.mapv (f : Int → Tm) : Tm → Tm
  | .mk k n s ts => if k = 1 then f n else .mk k n s (tmsMapv f ts)
def tmsMapv (f : Int → Tm) : List Tm → List Tm
  | [] => []
  | t :: ts => t.mapv f :: tmsMapv f ts
end
theorem tmsMapv_map (f : Int → Tm) : ∀ ts : List Tm, tmsMapv f ts = ts.map (Tm.mapv f)
  | [] => rfl
  | t :: ts => by simp only [tmsMapv, List.map_cons, tmsMapv_map f ts]
theorem Tm.mapv_var (f : Int → Tm) {k n : Int} {s : ByteArray} {ts : List Tm} (h : k = 1) : (Tm.mk k n s ts).mapv f = f n := by simp only [Tm.mapv, h, if_true]
theorem Tm.mapv_mk (f : Int → Tm) {k n : Int} {s : ByteArray} {ts : List Tm} (h : k ≠ 1) : (Tm.mk k n s ts).mapv f = .mk k n s (ts.map (Tm.mapv f)) := by simp only [Tm.mapv, h, if_false, tmsMapv_map]
theorem mapv_vr (f : Int → Tm) (n : Int) : (vr n).mapv f = f n := Tm.mapv_var f rfl
mutual
def Tm.vl : Tm → List Int
  | .mk k n _ ts => if k = 1 then [n] else tmsVl ts
def tmsVl : List Tm → List Int
  | [] => []
  | t :: ts => t.vl ++ tmsVl ts
end
theorem tmsVl_mem {v : Int} : ∀ {ts : List Tm}, v ∈ tmsVl ts ↔ ∃ t ∈ ts, v ∈ t.vl
  | [] => by simp [tmsVl]
  | t :: ts => by simp [tmsVl, tmsVl_mem (ts := ts)]
theorem Tm.vl_var {k n : Int} {s : ByteArray} {ts : List Tm} (h : k = 1) : (Tm.mk k n s ts).vl = [n] := by simp only [Tm.vl, h, if_true]
theorem Tm.vl_mk {k n v : Int} {s : ByteArray} {ts : List Tm} (h : k ≠ 1) : v ∈ (Tm.mk k n s ts).vl ↔ ∃ t ∈ ts, v ∈ t.vl := by simp only [Tm.vl, h, if_false, tmsVl_mem]
theorem vl_vr (n : Int) : (vr n).vl = [n] := Tm.vl_var rfl
theorem Tm.ind {p : Tm → Prop} (h : ∀ k n s ts, (∀ t ∈ ts, p t) → p (.mk k n s ts)) : ∀ t, p t
  | .mk k n s ts => h k n s ts fun t ht => Tm.ind h t
termination_by t => SizeOf.sizeOf t
decreasing_by have := List.sizeOf_lt_of_mem ht; simp only [Tm.mk.sizeOf_spec]; omega
theorem mapv_congr {f g : Int → Tm} : ∀ (t : Tm), (∀ v ∈ t.vl, f v = g v) → t.mapv f = t.mapv g := by
  intro t
  induction t using Tm.ind with
  | h k n s ts ih =>
    intro h
    by_cases hk : k = 1
    · rw [Tm.mapv_var f hk, Tm.mapv_var g hk]; exact h n (by rw [Tm.vl_var hk]; simp)
    · rw [Tm.mapv_mk f hk, Tm.mapv_mk g hk]
      congr 1
      exact List.map_congr_left fun x hx => ih x hx fun v hv => h v ((Tm.vl_mk hk).2 ⟨x, hx, hv⟩)
theorem mapv_mapv (f g : Int → Tm) (t : Tm) : (t.mapv f).mapv g = t.mapv fun v => (f v).mapv g := by
  induction t using Tm.ind with
  | h k n s ts ih =>
    by_cases hk : k = 1
    · rw [Tm.mapv_var f hk, Tm.mapv_var _ hk]
    · rw [Tm.mapv_mk f hk, Tm.mapv_mk g hk, Tm.mapv_mk _ hk, List.map_map]
      congr 1
      exact List.map_congr_left fun x hx => ih x hx
theorem vl_mapv {f : Int → Tm} {w : Int} (t : Tm) : w ∈ (t.mapv f).vl ↔ ∃ v ∈ t.vl, w ∈ (f v).vl := by
  induction t using Tm.ind with
  | h k n s ts ih =>
    by_cases hk : k = 1
    · rw [Tm.mapv_var f hk, Tm.vl_var hk]; simp
    · rw [Tm.mapv_mk f hk, Tm.vl_mk hk]
      constructor
      · rintro ⟨x, hx, hw⟩
        obtain ⟨y, hy, rfl⟩ := List.mem_map.1 hx
        obtain ⟨v, hv, hvw⟩ := (ih y hy).1 hw
        exact ⟨v, (Tm.vl_mk hk).2 ⟨y, hy, hv⟩, hvw⟩
      · rintro ⟨v, hv, hw⟩
        obtain ⟨y, hy, hvy⟩ := (Tm.vl_mk hk).1 hv
        exact ⟨_, List.mem_map.2 ⟨y, hy, rfl⟩, (ih y hy).2 ⟨v, hvy, hw⟩⟩
theorem nodes_mapv {f : Int → Tm} {v : Int} : ∀ (t : Tm), v ∈ t.vl → (f v).nodes ≤ (t.mapv f).nodes ∧ (t.k ≠ 1 → (f v).nodes < (t.mapv f).nodes) := by
  intro t
  induction t using Tm.ind with
  | h k n s ts ih =>
    intro hv
    by_cases hk : k = 1
    · rw [Tm.vl_var hk] at hv
      simp only [List.mem_cons, List.not_mem_nil, or_false] at hv
      subst hv
      rw [Tm.mapv_var f hk]
      exact ⟨Nat.le_refl _, fun h => absurd hk h⟩
    · obtain ⟨x, hx, hvx⟩ := (Tm.vl_mk hk).1 hv
      have h1 := (ih x hx hvx).1
      have h2 := sumL_mem (f := Tm.nodes) (List.mem_map.2 ⟨x, hx, rfl⟩ : x.mapv f ∈ ts.map (Tm.mapv f))
      rw [Tm.mapv_mk f hk, Tm.nodes_mk]
      omega
abbrev Sub := Int → Option Tm
def Sub.set (σ : Sub) (n : Int) (t : Tm) : Sub := fun m => if m = n then some t else σ m
def Sub.none : Sub := fun _ => Option.none
structure Good (σ : Sub) (R : Int → Tm) (rk : Int → Nat) (B : Nat) : Prop where
  sol : ∀ n, R n = match σ n with | some u => u.mapv R | .none => vr n
  rank : ∀ n u, σ n = some u → ∀ w ∈ u.vl, rk w < rk n
  bd : ∀ n, rk n < B
def Sol (θ : Int → Tm) (σ : Sub) : Prop := ∀ n u, σ n = some u → θ n = u.mapv θ
section
variable {σ : Sub} {R R' : Int → Tm} {rk rk' : Int → Nat} {B B' : Nat}
theorem Good.none : Good Sub.none vr (fun _ => 0) 1 := ⟨fun n => rfl, fun n u h => (by cases h), fun n => Nat.zero_lt_one⟩
theorem Good.free (G : Good σ R rk B) {n : Int} (h : σ n = .none) : R n = vr n := by rw [G.sol n, h]
theorem Good.bound (G : Good σ R rk B) {n : Int} {u : Tm} (h : σ n = some u) : R n = u.mapv R := by rw [G.sol n, h]
theorem Good.isSol (G : Good σ R rk B) : Sol R σ := fun n u h => G.bound h
theorem Good.ind (G : Good σ R rk B) {p : Int → Prop} (h0 : ∀ n, σ n = .none → p n) (h1 : ∀ n u, σ n = some u → (∀ w ∈ u.vl, p w) → p n) : ∀ n, p n := by
  intro n
  generalize hk : rk n = k
  induction k using Nat.strongRecOn generalizing n with
  | _ k ih =>
    cases h : σ n with
    | none => exact h0 n h
    | some u => exact h1 n u h fun w hw => ih (rk w) (hk ▸ G.rank n u h w hw) w rfl
theorem Good.uniq (G : Good σ R rk B) (G' : Good σ R' rk' B') : R = R' := by
  funext n
  refine G.ind (p := fun n => R n = R' n) (fun n h => ?_) (fun n u h ih => ?_) n
  · rw [G.free h, G'.free h]
  · rw [G.bound h, G'.bound h]; exact mapv_congr u ih
theorem Good.factor (G : Good σ R rk B) {θ : Int → Tm} (S : Sol θ σ) (n : Int) : (R n).mapv θ = θ n := by
  refine G.ind (p := fun n => (R n).mapv θ = θ n) (fun n h => ?_) (fun n u h ih => ?_) n
  · rw [G.free h, mapv_vr]
  · rw [G.bound h, mapv_mapv, S n u h]; exact mapv_congr u ih
theorem Good.factorT (G : Good σ R rk B) {θ : Int → Tm} (S : Sol θ σ) (t : Tm) : (t.mapv R).mapv θ = t.mapv θ := by
  rw [mapv_mapv]; exact mapv_congr t fun v _ => G.factor S v
theorem Good.canon (G : Good σ R rk B) (n : Int) : (R n).mapv vr = R n := by
  refine G.ind (p := fun n => (R n).mapv vr = R n) (fun n h => ?_) (fun n u h ih => ?_) n
  · rw [G.free h, mapv_vr]
  · rw [G.bound h, mapv_mapv]; exact mapv_congr u ih
theorem Good.canonT (G : Good σ R rk B) (t : Tm) : (t.mapv R).mapv vr = t.mapv R := by
  rw [mapv_mapv]; exact mapv_congr t fun v _ => G.canon v
theorem Good.bind (G : Good σ R rk B) {n : Int} {t : Tm} (hn : σ n = .none) (ho : n ∉ (t.mapv R).vl) :
    ∃ rk' B', Good (σ.set n t) (fun m => (R m).mapv fun v => if v = n then t.mapv R else vr v) rk' B' := by
  have key : (t.mapv R).mapv (fun v => if v = n then t.mapv R else vr v) = t.mapv R := by
    rw [mapv_congr (g := vr) (t.mapv R) (fun v hv => if_neg fun e => ho (by rw [← e]; exact hv)), G.canonT]
  refine ⟨fun v => if n ∈ (R v).vl then rk v + B else rk v, B + B, fun m => ?_, fun m u h w hw => ?_, fun m => ?_⟩
  · by_cases hm : m = n
    · subst hm
      simp only [Sub.set, if_true]
      rw [G.free hn, mapv_vr, if_pos rfl]
      rw [← mapv_mapv, key]
    · simp only [Sub.set, hm, if_false]
      cases h : σ m with
      | none => rw [G.free h, mapv_vr, if_neg hm]
      | some u => rw [G.bound h, mapv_mapv]
  · by_cases hm : m = n
    · subst hm
      simp only [Sub.set, if_true, Option.some.injEq] at h
      subst h
      have hw' : m ∉ (R w).vl := fun h => ho ((vl_mapv t).2 ⟨w, hw, h⟩)
      have : m ∈ (R m).vl := by rw [G.free hn, vl_vr]; simp
      have := G.bd w
      simp only [hw', if_false]
      rw [if_pos (by assumption)]
      omega
    · simp only [Sub.set, hm, if_false] at h
      have h1 := G.rank m u h w hw
      by_cases hw' : n ∈ (R w).vl
      · have : n ∈ (R m).vl := by rw [G.bound h]; exact (vl_mapv u).2 ⟨w, hw, hw'⟩
        simp only [hw', this, if_true]; omega
      · simp only [hw', if_false]; split <;> omega
  · have := G.bd m
    split <;> omega
end
open Classical in
noncomputable def rs (σ : Sub) : Int → Tm := if h : ∃ R rk B, Good σ R rk B then h.choose else vr
theorem Good.rs {σ : Sub} {R : Int → Tm} {rk : Int → Nat} {B : Nat} (G : Good σ R rk B) : rs σ = R := by
  unfold AW.rs
  have h : ∃ R rk B, Good σ R rk B := ⟨R, rk, B, G⟩
  rw [dif_pos h]
  obtain ⟨rk', B', G'⟩ := h.choose_spec
  exact G'.uniq G
inductive WkN (σ : Sub) : Nat → Tm → Tm → Prop
  | stop {t : Tm} (h : t.k = 1 → σ t.n = none) : WkN σ 0 t t
  | go {f : Nat} {t u v : Tm} (h1 : t.k = 1) (h2 : σ t.n = some u) (h3 : WkN σ f u v) : WkN σ (f + 1) t v
theorem WkN.det {σ : Sub} {f g : Nat} {t u v : Tm} (h : WkN σ f t u) : WkN σ g t v → u = v := by
  induction h generalizing g v with
  | stop h =>
    intro h'
    cases h' with
    | stop => rfl
    | go h1 h2 h3 => rw [h h1] at h2; cases h2
  | go h1 h2 h3 ih =>
    intro h'
    cases h' with
    | stop h => rw [h h1] at h2; cases h2
    | go h1' h2' h3' => rw [h2] at h2'; cases h2'; exact ih h3'
theorem WkN.total {σ : Sub} {R : Int → Tm} {rk : Int → Nat} {B : Nat} (G : Good σ R rk B) (t : Tm) : ∃ f u, WkN σ f t u := by
  have key : ∀ n, ∀ t : Tm, t.k = 1 → t.n = n → ∃ f u, WkN σ f t u := by
    intro n
    refine G.ind (p := fun n => ∀ t : Tm, t.k = 1 → t.n = n → ∃ f u, WkN σ f t u) (fun n h t hk hn => ?_) (fun n u h ih t hk hn => ?_) n
    · exact ⟨0, t, .stop fun _ => by rw [hn, h]⟩
    · by_cases hu : u.k = 1
      · have : u.n ∈ u.vl := by rw [Tm.eta u, Tm.vl_var hu]; simp [Tm.n]
        obtain ⟨f, v, hv⟩ := ih u.n this u hu rfl
        exact ⟨f + 1, v, .go hk (by rw [hn, h]) hv⟩
      · exact ⟨1, u, .go hk (by rw [hn, h]) (.stop fun h => absurd h hu)⟩
  by_cases hk : t.k = 1
  · exact key t.n t hk rfl
  · exact ⟨0, t, .stop fun h => absurd h hk⟩
theorem Tm.vl_k1 {t : Tm} (h : t.k = 1) : t.vl = [t.n] := by cases t; exact Tm.vl_var h
theorem Tm.mapv_k1 {t : Tm} (f : Int → Tm) (h : t.k = 1) : t.mapv f = f t.n := by cases t; exact Tm.mapv_var f h
theorem Tm.mapv_k {t : Tm} (f : Int → Tm) (h : t.k ≠ 1) : t.mapv f = .mk t.k t.n t.s (t.ts.map (Tm.mapv f)) := by cases t; exact Tm.mapv_mk f h
theorem WkN.end {σ : Sub} {f : Nat} {t u : Tm} (h : WkN σ f t u) : u.k = 1 → σ u.n = none := by induction h with | stop h => exact h | go _ _ _ ih => exact ih
theorem WkN.mapv {σ : Sub} {θ : Int → Tm} (S : Sol θ σ) {f : Nat} {t u : Tm} (h : WkN σ f t u) : u.mapv θ = t.mapv θ := by
  induction h with
  | stop => rfl
  | go h1 h2 _ ih => rw [ih, Tm.mapv_k1 θ h1, S _ _ h2]
theorem WkN.rank {σ : Sub} {R : Int → Tm} {rk : Int → Nat} {B : Nat} (G : Good σ R rk B) {f : Nat} {t u : Tm} (h : WkN σ f t u) : ∀ w ∈ u.vl, ∃ v ∈ t.vl, rk w ≤ rk v ∧ (f ≠ 0 → rk w < rk v) := by
  induction h with
  | stop h => exact fun w hw => ⟨w, hw, Nat.le_refl _, fun h => absurd rfl h⟩
  | @go f t u v h1 h2 _ ih =>
    intro w hw
    obtain ⟨x, hx, hle, _⟩ := ih w hw
    have := G.rank _ _ h2 x hx
    exact ⟨t.n, by rw [Tm.vl_k1 h1]; simp, by omega, fun _ => by omega⟩
theorem WkN.all {σ : Sub} {p : Tm → Prop} (hp : ∀ n u, σ n = some u → p u) {f : Nat} {t u : Tm} (h : WkN σ f t u) (ht : p t) : p u := by
  induction h with
  | stop => exact ht
  | go _ h2 _ ih => exact ih (hp _ _ h2)
open Classical in
noncomputable def wk (σ : Sub) (t : Tm) : Tm := if h : ∃ u f, WkN σ f t u then h.choose else t
theorem WkN.wk {σ : Sub} {f : Nat} {t u : Tm} (h : WkN σ f t u) : wk σ t = u := by
  unfold AW.wk
  have h' : ∃ u f, WkN σ f t u := ⟨u, f, h⟩
  rw [dif_pos h']
  obtain ⟨g, hg⟩ := h'.choose_spec
  exact hg.det h
theorem Good.wk {σ : Sub} {R : Int → Tm} {rk : Int → Nat} {B : Nat} (G : Good σ R rk B) (t : Tm) : ∃ f, WkN σ f t (wk σ t) := by
  obtain ⟨f, u, h⟩ := WkN.total G t
  exact ⟨f, by rw [h.wk]; exact h⟩
open Classical in
noncomputable def bnd (σ : Sub) (n : Int) (t : Tm) : Bool × Sub × List Int := if n ∈ (t.mapv (rs σ)).vl then (false, σ, []) else (true, σ.set n t, [n])
open Classical in
def headEq (a b : Tm) : Bool := decide (a.k = b.k) && decide (a.n = b.n) && decide (a.s = b.s) && decide (a.ts.length = b.ts.length)
mutual
noncomputable def uniF : Nat → Sub → Tm → Tm → Option (Bool × Sub × List Int)
  | 0, _, _, _ => none
  | g + 1, σ, a, b =>
    if (wk σ a).k = 1 ∧ (wk σ b).k = 1 ∧ (wk σ a).n = (wk σ b).n then some (true, σ, [])
    else if (wk σ a).k = 1 then some (bnd σ (wk σ a).n (wk σ b))
    else if (wk σ b).k = 1 then some (bnd σ (wk σ b).n (wk σ a))
    else if headEq (wk σ a) (wk σ b) = true then unisF g σ (wk σ a).ts (wk σ b).ts
    else some (false, σ, [])
termination_by g => (g, 0)
noncomputable def unisF : Nat → Sub → List Tm → List Tm → Option (Bool × Sub × List Int)
  | g, σ, a :: xs, b :: ys => match uniF g σ a b with
    | none => none
    | some (false, σ', tr) => some (false, σ', tr)
    | some (true, σ', tr) => match unisF g σ' xs ys with
      | none => none
      | some (r, σ'', tr') => some (r, σ'', tr ++ tr')
  | _, σ, _, _ => some (true, σ, [])
termination_by g _ xs => (g, xs.length + 1)
end
theorem uniF_cases {g : Nat} {σ σ' : Sub} {a b : Tm} {r : Bool} {add : List Int} (h : uniF (g + 1) σ a b = some (r, σ', add)) :
    ((wk σ a).k = 1 ∧ (wk σ b).k = 1 ∧ (wk σ a).n = (wk σ b).n ∧ true = r ∧ σ = σ' ∧ [] = add) ∨
    ((wk σ a).k = 1 ∧ ¬((wk σ b).k = 1 ∧ (wk σ a).n = (wk σ b).n) ∧ bnd σ (wk σ a).n (wk σ b) = (r, σ', add)) ∨
    ((wk σ a).k ≠ 1 ∧ (wk σ b).k = 1 ∧ bnd σ (wk σ b).n (wk σ a) = (r, σ', add)) ∨
    ((wk σ a).k ≠ 1 ∧ (wk σ b).k ≠ 1 ∧ headEq (wk σ a) (wk σ b) = true ∧ unisF g σ (wk σ a).ts (wk σ b).ts = some (r, σ', add)) ∨
    ((wk σ a).k ≠ 1 ∧ (wk σ b).k ≠ 1 ∧ headEq (wk σ a) (wk σ b) = false ∧ false = r ∧ σ = σ' ∧ [] = add) := by
  rw [uniF] at h
  split at h
  · rename_i h1; exact .inl ⟨h1.1, h1.2.1, h1.2.2, by simpa using h⟩
  · rename_i h1
    split at h
    · rename_i h2; exact .inr (.inl ⟨h2, fun h3 => h1 ⟨h2, h3⟩, Option.some.inj h⟩)
    · rename_i h2
      split at h
      · rename_i h3; exact .inr (.inr (.inl ⟨h2, h3, Option.some.inj h⟩))
      · rename_i h3
        split at h
        · rename_i h4; exact .inr (.inr (.inr (.inl ⟨h2, h3, h4, h⟩)))
        · rename_i h4; exact .inr (.inr (.inr (.inr ⟨h2, h3, by simpa using h4, by simpa using h⟩)))
end Go.AW

/- Bindings as data; replaced variables. -/
namespace Go.AW
set_option linter.unusedSimpArgs false
set_option linter.unusedVariables false
theorem Tm.soft (t : Tm) : t.av.soft = t.av := by cases t; simp [Tm.av_mk, AV.soft, softL]
theorem Tm.fin0 (t : Tm) (b : Nat) : t.av.fin b [] = t.av := Tm.soft t
abbrev Bd := Int × Tm
def bdAv (b : Bd) : AV := .agg (.int .i64 b.1 :: b.2.av.cells)
theorem bdAv_agg (b : Bd) : (bdAv b).isAgg = true := rfl
theorem bdAv_width (b : Bd) : (bdAv b).width = 5 := by simp only [bdAv, AV.width, List.length_cons, Tm.av_cells]
theorem bdAv_store (b : Bd) : (bdAv b).cells.all AV.storable = true := by
  show (AV.int .i64 b.1 :: b.2.av.cells).all AV.storable = true
  rw [List.all_cons, Tm.av_store b.2]
  rfl
theorem bdAv_junk (b : Bd) : (bdAv b).isJunk = false := rfl
theorem bd_widths (l : List Bd) : ∀ e ∈ l.map bdAv, e.width = 5 := by intro e h; simp only [List.mem_map] at h; obtain ⟨t, _, rfl⟩ := h; exact bdAv_width t
theorem bdAv_mk (n : Int) (t : Tm) : AV.agg (.int .i64 n :: t.av.cells) = bdAv (n, t) := rfl
def findB : List Bd → Int → Option Tm
  | [], _ => none
  | (m, x) :: r, n => if m = n then some x else findB r n
def subB (bs : List Bd) (n : Int) : Tm := (findB bs n).getD (vr n)
def Tm.zero : Tm := .mk 0 0 ⟨#[]⟩ []
mutual
def Tm.cv : Tm → Bool
  | .mk k _ s ts => (!decide (k = 1) || (decide (s = ⟨#[]⟩) && ts.isEmpty)) && tmsCv ts
def tmsCv : List Tm → Bool
  | [] => true
  | t :: ts => t.cv && tmsCv ts
end
theorem tmsCv_all : ∀ (ts : List Tm), tmsCv ts = ts.all Tm.cv
  | [] => rfl
  | t :: ts => by simp only [tmsCv, List.all_cons, tmsCv_all ts]
theorem Tm.cv_mk {k n : Int} {s : ByteArray} {ts : List Tm} : (Tm.mk k n s ts).cv = true ↔ (k = 1 → s = ⟨#[]⟩ ∧ ts = []) ∧ ∀ x ∈ ts, x.cv = true := by
  simp only [Tm.cv, tmsCv_all, Bool.and_eq_true, Bool.or_eq_true, Bool.not_eq_true', decide_eq_false_iff_not, List.isEmpty_iff, List.all_eq_true, decide_eq_true_eq]
  constructor
  · exact fun h => ⟨fun hk => h.1.resolve_left (fun hn => hn hk), h.2⟩
  · intro h
    refine ⟨?_, h.2⟩
    by_cases hk : k = 1
    · exact .inr (h.1 hk)
    · exact .inl hk
theorem Tm.cv_wf : ∀ (t : Tm), t.cv = true → t.wf = true := by
  intro t
  induction t using Tm.ind with
  | h k n s ts ih =>
    intro h
    obtain ⟨h1, h2⟩ := Tm.cv_mk.1 h
    simp only [Tm.wf, tmsWf_all, Bool.and_eq_true, Bool.or_eq_true, Bool.not_eq_true', decide_eq_false_iff_not, List.isEmpty_iff, List.all_eq_true]
    refine ⟨?_, fun x hx => ih x hx (h2 x hx)⟩
    by_cases hk : k = 1
    · exact .inr (h1 hk).2
    · exact .inl hk
theorem Tm.shape_small : ∀ (t : Tm) (d : Int), t.shape d = true → t.small = true := by
  intro t
  induction t using Tm.ind with
  | h k n s ts ih =>
    intro d h
    rw [Tm.shape_mk] at h
    simp only [Bool.and_eq_true, List.all_eq_true] at h
    obtain ⟨⟨_, h1⟩, h2⟩ := h
    simp only [Tm.small, tmsSmall_all, Bool.and_eq_true, decide_eq_true_eq, List.all_eq_true]
    refine ⟨?_, fun x hx => ih x hx _ (h2 x hx)⟩
    unfold ownOk at h1
    cases h3 : decide (k = 1) <;> rw [h3] at h1
    · cases h4 : decide (k = 2) <;> rw [h4] at h1
      · cases h5 : decide (k = 3) <;> rw [h5] at h1 <;> simp at h1; omega
      · simp at h1; rw [h1.2]; simp
    · simp at h1; rw [h1.2]; simp
theorem Tm.valid_small {t : Tm} (h : t.valid = true) : t.small = true := by simp only [Tm.valid, Bool.and_eq_true] at h; exact Tm.shape_small t 30 h.1
theorem Tm.mapv_small {f : Int → Tm} (hf : ∀ n, (f n).small = true) : ∀ (t : Tm), t.small = true → (t.mapv f).small = true := by
  intro t
  induction t using Tm.ind with
  | h k n s ts ih =>
    intro h
    by_cases hk : k = 1
    · rw [Tm.mapv_var f hk]; exact hf n
    · obtain ⟨h1, h2⟩ := Tm.small_mk h
      rw [Tm.mapv_mk f hk]
      simp only [Tm.small, tmsSmall_all, Bool.and_eq_true, decide_eq_true_eq, List.all_eq_true, List.length_map]
      refine ⟨h1, fun x hx => ?_⟩
      obtain ⟨y, hy, rfl⟩ := List.mem_map.1 hx
      exact ih y hy (h2 y hy)
def idxP {α : Type} (p : α → Bool) : List α → Int → Int
  | [], _ => -1
  | x :: xs, i => if p x = true then i else idxP p xs (i + 1)
theorem idxP_spec {α : Type} (p : α → Bool) : ∀ (l : List α) (i : Int), 0 ≤ i → (idxP p l i = -1 ∧ l.any p = false) ∨ ∃ (j : Nat) (x : α), idxP p l i = i + j ∧ l[j]? = some x ∧ p x = true ∧ l.any p = true ∧ ∀ (k : Nat) y, k < j → l[k]? = some y → p y = false
  | [], i, _ => .inl ⟨rfl, rfl⟩
  | x :: xs, i, h => by
    by_cases hp : p x = true
    · exact .inr ⟨0, x, by simp [idxP, hp], rfl, hp, by simp [hp], fun k y hk => absurd hk (Nat.not_lt_zero k)⟩
    · rcases idxP_spec p xs (i + 1) (by omega) with ⟨h1, h2⟩ | ⟨j, y, h1, h2, h3, h4, h5⟩
      · exact .inl ⟨by simp [idxP, hp, h1], by simp [hp, h2]⟩
      · refine .inr ⟨j + 1, y, by simp only [idxP, hp, h1]; simp; omega, by simpa using h2, h3, by simp [h4], fun k z hk hz => ?_⟩
        cases k with
        | zero => simp at hz; subst hz; simpa using hp
        | succ k => exact h5 k z (by omega) (by simpa using hz)
theorem idxP_any {α : Type} (p : α → Bool) (l : List α) : decide (0 ≤ idxP p l 0) = l.any p := by
  rcases idxP_spec p l 0 (Int.le_refl 0) with ⟨h1, h2⟩ | ⟨j, y, h1, _, _, h4, _⟩
  · rw [h1, h2]; rfl
  · rw [h1, h4]; simp
theorem findB_idx (bs : List Bd) (n : Int) : (idxP (fun b => decide (b.1 = n)) bs 0 = -1 ∧ findB bs n = none) ∨ ∃ (j : Nat) (b : Bd), idxP (fun b => decide (b.1 = n)) bs 0 = j ∧ bs[j]? = some b ∧ findB bs n = some b.2 := by
  have key : ∀ (l : List Bd) (j : Nat) (b : Bd), l[j]? = some b → b.1 = n → (∀ (k : Nat) y, k < j → l[k]? = some y → ¬ y.1 = n) → findB l n = some b.2 := by
    intro l
    induction l with
    | nil => intro j b h; simp at h
    | cons x l ih =>
      intro j b h hb hlt
      cases j with
      | zero => simp at h; subst h; simp [findB, hb]
      | succ j =>
        have hx := hlt 0 x (by omega) rfl
        obtain ⟨m, t⟩ := x
        simp only [findB, hx, if_false]
        exact ih j b (by simpa using h) hb fun k y hk hy => hlt (k + 1) y (by omega) (by simpa using hy)
  rcases idxP_spec (fun b : Bd => decide (b.1 = n)) bs 0 (Int.le_refl 0) with ⟨h1, h2⟩ | ⟨j, y, h1, h2, h3, _, h5⟩
  · refine .inl ⟨h1, ?_⟩
    clear h1
    induction bs with
    | nil => rfl
    | cons x l ih =>
      obtain ⟨m, t⟩ := x
      simp only [List.any_cons, Bool.or_eq_false_iff, decide_eq_false_iff_not] at h2
      simp only [findB, h2.1, if_false]
      exact ih h2.2
  · refine .inr ⟨j, y, by rw [h1]; omega, h2, key bs j y h2 (by simpa using h3) fun k z hk hz => by simpa using h5 k z hk hz⟩
end Go.AW
