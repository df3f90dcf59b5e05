import Derived.Test.YtccofeljgfmplaaAgFing
import Derived.Test.YtccofeljgfmplaaAgFini

/- Names and goals: what the reference's and the program's functions return. -/
namespace Go.AW
open Go.Proofs.Try
set_option linter.unusedSimpArgs false
set_option maxRecDepth 100000

theorem c_within (n lo hi : Int) (st : Store) : ACalls prog 88 [.int .i64 n, .int .i64 lo, .int .i64 hi] st (fun r st' => r = .bool (decide (lo ≤ n) && decide (n ≤ hi)) ∧ st' = st) := by
  refine acalls_fit [] func88 ntmps88 rfl rfl (by kernel_rfl) (by decide +kernel) (by show 3 ≤ _; decide +kernel) ?_
  intro _
  repeat' (first
    | (simp -implicitDefEqProofs only [*, evb0, evb1, evb2, evb3, evb4, evb5, evb6, evb7, evb8, evb9, ↓evZ2, ↓evZ3, ↓Int.cast_ofNat_Int, implies_true, ne_eq, or_false, false_or, or_self, gt_iff_lt, isMut, aFn, List.contains, List.elem, aBox, aField, aLoad, sub, aNil, aPick, aExt, aFld, gd, noJunk, plainOp, aBuildSlice, aBuild, aFill, aParts, seqParts, fitAll, List.range', ↓reduceIte, reduceCtorEq, Nat.reduceEqDiff, Nat.reduceAdd, Nat.reduceLeDiff, Nat.reduceMul, Nat.reduceLT, Nat.reduceBEq, Int.reduceEq, tI_3, zI_3, underlying3, tI_4, zI_4, underlying4, tI_15, zI_15])
    | (refine opsG_split (fun h => ?_) (fun h => ?_))
    
    | (refine cond_split (fun h => ?_) (fun h => ?_)))
  all_goals simp_all

theorem c_OpLevel (s : ByteArray) (st : Store) : ACalls prog 208 [.str s] st (fun r st' => r = .tup [.int .i64 (opLevel s), .bool (opLevel s == 1 || opLevel s == 2)] ∧ st' = st) := by
  refine acalls_fit [] func208 ntmps208 rfl rfl (by kernel_rfl) (by decide +kernel) (by show 1 ≤ _; decide +kernel) ?_
  intro _
  repeat' (first
    | (simp -implicitDefEqProofs only [*, evb0, evb1, evb2, evb3, evb4, evb5, evb6, evb7, evb8, evb9, ↓evZ2, ↓evZ3, ↓Int.cast_ofNat_Int, implies_true, ne_eq, or_false, false_or, or_self, gt_iff_lt, isMut, aFn, List.contains, List.elem, aBox, aField, aLoad, sub, aNil, aPick, aExt, aFld, gd, noJunk, plainOp, aBuildSlice, aBuild, aFill, aParts, seqParts, fitAll, List.range', ↓reduceIte, reduceCtorEq, Nat.reduceEqDiff, Nat.reduceAdd, Nat.reduceLeDiff, Nat.reduceMul, Nat.reduceLT, Nat.reduceBEq, Int.reduceEq, tI_2, zI_2, underlying2, tI_3, zI_3, underlying3, tI_4, zI_4, underlying4, tI_5, zI_5, underlying5, tI_6, zI_6, underlying6, tI_7, zI_7, fI_7_0, fI_7_1, fI_7_2, fI_7_3, bI_7, tI_8, zI_8, fI_8_0, fI_8_1, fI_8_2, fI_8_3, bI_8, tI_9, zI_9, underlying9, tI_10, zI_10, underlying10, tI_11, zI_11, underlying11, tI_12, zI_12, underlying12, tI_13, zI_13, fI_13_0, fI_13_1, bI_13, tI_14, zI_14, fI_14_0, fI_14_1, bI_14, tI_15, zI_15, tI_16, zI_16, tI_17, zI_17, tI_18, zI_18, fI_18_0, bI_18, tI_19, zI_19, fI_19_0, bI_19, tI_22, zI_22, eI_22, eB_22, eZ_22, underlying22, tI_58, zI_58, fI_58_0, fI_58_1, bI_58, tI_60, zI_60, eI_60, eB_60, eZ_60, underlying60, tI_62, zI_62, eI_62, eB_62, eZ_62, underlying62, tI_64, zI_64, fI_64_0, fI_64_1, bI_64, tI_92, zI_92, fI_92_0, fI_92_1, fI_92_2, fI_92_3, bI_92, tI_111, zI_111])
    | (refine opsG_split (fun h => ?_) (fun h => ?_))
    
    | (refine cond_split (fun h => ?_) (fun h => ?_)))
  all_goals (simp only [opLevel, *, Bool.or_true, Bool.true_or, Bool.or_false, Bool.false_or, Bool.or_self, cond_true, cond_false]; first | done | rfl)

theorem c_l2Level (s : ByteArray) (st : Store) : ACalls prog 188 [.str s] st (fun r st' => r = .int .i64 (opLevel s) ∧ st' = st) := by
  refine acalls_fit [] func188 ntmps188 rfl rfl (by kernel_rfl) (by decide +kernel) (by show 1 ≤ _; decide +kernel) ?_
  intro _
  repeat' (first
    | (simp -implicitDefEqProofs only [*, evb0, evb1, evb2, evb3, evb4, evb5, evb6, evb7, evb8, evb9, ↓evZ2, ↓evZ3, ↓Int.cast_ofNat_Int, implies_true, ne_eq, or_false, false_or, or_self, gt_iff_lt, isMut, aFn, List.contains, List.elem, aBox, aField, aLoad, sub, aNil, aPick, aExt, aFld, gd, noJunk, plainOp, aBuildSlice, aBuild, aFill, aParts, seqParts, fitAll, List.range', ↓reduceIte, reduceCtorEq, Nat.reduceEqDiff, Nat.reduceAdd, Nat.reduceLeDiff, Nat.reduceMul, Nat.reduceLT, Nat.reduceBEq, Int.reduceEq, tI_2, zI_2, underlying2, tI_3, zI_3, underlying3, tI_4, zI_4, underlying4, tI_5, zI_5, underlying5, tI_6, zI_6, underlying6, tI_7, zI_7, fI_7_0, fI_7_1, fI_7_2, fI_7_3, bI_7, tI_8, zI_8, fI_8_0, fI_8_1, fI_8_2, fI_8_3, bI_8, tI_9, zI_9, underlying9, tI_10, zI_10, underlying10, tI_11, zI_11, underlying11, tI_12, zI_12, underlying12, tI_13, zI_13, fI_13_0, fI_13_1, bI_13, tI_14, zI_14, fI_14_0, fI_14_1, bI_14, tI_15, zI_15, tI_16, zI_16, tI_17, zI_17, tI_18, zI_18, fI_18_0, bI_18, tI_19, zI_19, fI_19_0, bI_19, tI_21, zI_21, underlying21, tI_58, zI_58, fI_58_0, fI_58_1, bI_58, tI_60, zI_60, eI_60, eB_60, eZ_60, underlying60, tI_62, zI_62, eI_62, eB_62, eZ_62, underlying62, tI_64, zI_64, fI_64_0, fI_64_1, bI_64, tI_92, zI_92, fI_92_0, fI_92_1, fI_92_2, fI_92_3, bI_92, tI_111, zI_111])
    | (refine opsG_split (fun h => ?_) (fun h => ?_))
    
    | (refine cond_split (fun h => ?_) (fun h => ?_)))
  all_goals (simp only [opLevel, *, Bool.or_true, Bool.true_or, Bool.or_false, Bool.false_or, Bool.or_self, cond_true, cond_false]; first | done | rfl)

theorem c_impl_IsBuiltin (s : ByteArray) (n : Int) (st : Store) : ACalls prog 150 [.str s, .int .i64 n] st (fun r st' => r = .bool (isBuiltin s n) ∧ st' = st) := by
  refine acalls_fit [] func150 ntmps150 rfl rfl (by kernel_rfl) (by decide +kernel) (by show 2 ≤ _; decide +kernel) ?_
  intro _
  repeat' (first
    | (simp -implicitDefEqProofs only [*, evb0, evb1, evb2, evb3, evb4, evb5, evb6, evb7, evb8, evb9, ↓evZ2, ↓evZ3, ↓Int.cast_ofNat_Int, implies_true, ne_eq, or_false, false_or, or_self, gt_iff_lt, isMut, aFn, List.contains, List.elem, aBox, aField, aLoad, sub, aNil, aPick, aExt, aFld, gd, noJunk, plainOp, aBuildSlice, aBuild, aFill, aParts, seqParts, fitAll, List.range', ↓reduceIte, reduceCtorEq, Nat.reduceEqDiff, Nat.reduceAdd, Nat.reduceLeDiff, Nat.reduceMul, Nat.reduceLT, Nat.reduceBEq, Int.reduceEq, tI_2, zI_2, underlying2, tI_3, zI_3, underlying3, tI_4, zI_4, underlying4, tI_5, zI_5, underlying5, tI_6, zI_6, underlying6, tI_7, zI_7, fI_7_0, fI_7_1, fI_7_2, fI_7_3, bI_7, tI_8, zI_8, fI_8_0, fI_8_1, fI_8_2, fI_8_3, bI_8, tI_9, zI_9, underlying9, tI_10, zI_10, underlying10, tI_11, zI_11, underlying11, tI_12, zI_12, underlying12, tI_13, zI_13, fI_13_0, fI_13_1, bI_13, tI_14, zI_14, fI_14_0, fI_14_1, bI_14, tI_15, zI_15, tI_16, zI_16, tI_17, zI_17, tI_18, zI_18, fI_18_0, bI_18, tI_19, zI_19, fI_19_0, bI_19, tI_21, zI_21, underlying21, tI_22, zI_22, eI_22, eB_22, eZ_22, underlying22, tI_58, zI_58, fI_58_0, fI_58_1, bI_58, tI_60, zI_60, eI_60, eB_60, eZ_60, underlying60, tI_62, zI_62, eI_62, eB_62, eZ_62, underlying62, tI_64, zI_64, fI_64_0, fI_64_1, bI_64, tI_92, zI_92, fI_92_0, fI_92_1, fI_92_2, fI_92_3, bI_92, tI_102, zI_102, tI_111, zI_111, tI_118, zI_118, fI_118_0, fI_118_1, bI_118])
    | (refine opsG_split (fun h => ?_) (fun h => ?_))
    
    | (refine cond_split (fun h => ?_) (fun h => ?_)))
  all_goals (simp only [isBuiltin, *, Bool.or_true, Bool.true_or, Bool.or_false, Bool.false_or, Bool.or_self, cond_true, cond_false]; first | done | rfl)

theorem c_spec_IsBuiltin (s : ByteArray) (n : Int) (st : Store) : ACalls prog 112 [.str s, .int .i64 n] st (fun r st' => r = .bool (isBuiltin s n) ∧ st' = st) := by
  refine acalls_fit [] func112 ntmps112 rfl rfl (by kernel_rfl) (by decide +kernel) (by show 2 ≤ _; decide +kernel) ?_
  intro _
  repeat' (first
    | (simp -implicitDefEqProofs only [*, evb0, evb1, evb2, evb3, evb4, evb5, evb6, evb7, evb8, evb9, ↓evZ2, ↓evZ3, ↓Int.cast_ofNat_Int, implies_true, ne_eq, or_false, false_or, or_self, gt_iff_lt, isMut, aFn, List.contains, List.elem, aBox, aField, aLoad, sub, aNil, aPick, aExt, aFld, gd, noJunk, plainOp, aBuildSlice, aBuild, aFill, aParts, seqParts, fitAll, List.range', ↓reduceIte, reduceCtorEq, Nat.reduceEqDiff, Nat.reduceAdd, Nat.reduceLeDiff, Nat.reduceMul, Nat.reduceLT, Nat.reduceBEq, Int.reduceEq, tI_2, zI_2, underlying2, tI_3, zI_3, underlying3, tI_4, zI_4, underlying4, tI_5, zI_5, underlying5, tI_6, zI_6, underlying6, tI_7, zI_7, fI_7_0, fI_7_1, fI_7_2, fI_7_3, bI_7, tI_8, zI_8, fI_8_0, fI_8_1, fI_8_2, fI_8_3, bI_8, tI_9, zI_9, underlying9, tI_10, zI_10, underlying10, tI_11, zI_11, underlying11, tI_12, zI_12, underlying12, tI_13, zI_13, fI_13_0, fI_13_1, bI_13, tI_14, zI_14, fI_14_0, fI_14_1, bI_14, tI_15, zI_15, tI_16, zI_16, tI_17, zI_17, tI_18, zI_18, fI_18_0, bI_18, tI_19, zI_19, fI_19_0, bI_19, tI_21, zI_21, underlying21, tI_22, zI_22, eI_22, eB_22, eZ_22, underlying22, tI_58, zI_58, fI_58_0, fI_58_1, bI_58, tI_60, zI_60, eI_60, eB_60, eZ_60, underlying60, tI_62, zI_62, eI_62, eB_62, eZ_62, underlying62, tI_64, zI_64, fI_64_0, fI_64_1, bI_64, tI_92, zI_92, fI_92_0, fI_92_1, fI_92_2, fI_92_3, bI_92, tI_102, zI_102, tI_111, zI_111, tI_118, zI_118, fI_118_0, fI_118_1, bI_118])
    | (refine opsG_split (fun h => ?_) (fun h => ?_))
    
    | (refine cond_split (fun h => ?_) (fun h => ?_)))
  all_goals (simp only [isBuiltin, *, Bool.or_true, Bool.true_or, Bool.or_false, Bool.false_or, Bool.or_self, cond_true, cond_false]; first | done | rfl)
end Go.AW


/- Names: what the reference's and the program's functions return. -/
namespace Go.AW
open Go.Proofs.Try
set_option linter.unusedSimpArgs false
set_option maxRecDepth 100000

theorem c_l1Word (s : ByteArray) (st : Store) : ACalls prog 200 [.str s] st (fun r st' => r = .bool (letters s) ∧ st' = st) := by
  refine acalls_fit [] func200 ntmps200 rfl rfl (by kernel_rfl) (by decide +kernel) (by show 1 ≤ _; decide +kernel) ?_
  simp only [fitsL, AV.fits, and_true]
  intro hs
  simp -implicitDefEqProofs only [evb0, evb1, evb2, evb3, evb4, evb5, evb6, evb7, evb8, evb9, ↓evZ2, ↓evZ3, ↓Int.cast_ofNat_Int, implies_true, ne_eq, or_false, false_or, or_self, gt_iff_lt, isMut, aFn, List.contains, List.elem, aBox, aField, aLoad, sub, aNil, aPick, aExt, aFld, gd, noJunk, plainOp, aBuildSlice, aBuild, aFill, aParts, seqParts, fitAll, List.range', ↓reduceIte, reduceCtorEq, Nat.reduceEqDiff, Nat.reduceAdd, Nat.reduceLeDiff, Nat.reduceMul, Nat.reduceLT, Nat.reduceBEq, Int.reduceEq, tI_2, zI_2, underlying2, tI_3, zI_3, underlying3, tI_4, zI_4, underlying4, tI_5, zI_5, underlying5, tI_6, zI_6, underlying6, tI_8, zI_8, fI_8_0, fI_8_1, fI_8_2, fI_8_3, bI_8, tI_9, zI_9, underlying9, tI_19, zI_19, fI_19_0, bI_19, tI_21, zI_21, underlying21, tI_22, zI_22, eI_22, eB_22, eZ_22, underlying22, tI_24, zI_24, fI_24_0, bI_24, tI_27, zI_27, eI_27, eB_27, eZ_27, underlying27, tI_64, zI_64, fI_64_0, fI_64_1, bI_64]
  refine arun_loopL (α := Nat) [] (fun i => i ≤ s.size ∧ ∀ (j : Nat) c, j < i → (sb s)[j]? = some c → letter c = true)
    (fun i => [(0, .str s), (3, .int .i64 i)]) (fun _ => st) (fun i => s.size - i) (by decide +kernel)
    ⟨0, ⟨by omega, by intro j x h; omega⟩, LessL.mk (by simp -implicitDefEqProofs only [evb0, evb1, evb2, evb3, evb4, evb5, evb6, evb7, evb8, evb9, ↓evZ2, ↓evZ3, ↓Int.cast_ofNat_Int, implies_true, ne_eq, or_false, false_or, or_self, gt_iff_lt, isMut, aFn, List.contains, List.elem, aBox, aField, aLoad, sub, aNil, aPick, aExt, aFld, gd, noJunk, plainOp, aBuildSlice, aBuild, aFill, aParts, seqParts, fitAll, List.range', ↓reduceIte, reduceCtorEq, Nat.reduceEqDiff, Nat.reduceAdd, Nat.reduceLeDiff, Nat.reduceMul, Nat.reduceLT, Nat.reduceBEq, Int.reduceEq, tI_2, zI_2, underlying2, tI_3, zI_3, underlying3, tI_4, zI_4, underlying4, tI_5, zI_5, underlying5, tI_6, zI_6, underlying6, tI_8, zI_8, fI_8_0, fI_8_1, fI_8_2, fI_8_3, bI_8, tI_9, zI_9, underlying9, tI_19, zI_19, fI_19_0, bI_19, tI_21, zI_21, underlying21, tI_22, zI_22, eI_22, eB_22, eZ_22, underlying22, tI_24, zI_24, fI_24_0, bI_24, tI_27, zI_27, eI_27, eB_27, eZ_27, underlying27, tI_64, zI_64, fI_64_0, fI_64_1, bI_64])⟩ ?_
  intro i ⟨hi, hall⟩
  simp -implicitDefEqProofs only [evb0, evb1, evb2, evb3, evb4, evb5, evb6, evb7, evb8, evb9, ↓evZ2, ↓evZ3, ↓Int.cast_ofNat_Int, implies_true, ne_eq, or_false, false_or, or_self, gt_iff_lt, isMut, aFn, List.contains, List.elem, aBox, aField, aLoad, sub, aNil, aPick, aExt, aFld, gd, noJunk, plainOp, aBuildSlice, aBuild, aFill, aParts, seqParts, fitAll, List.range', ↓reduceIte, reduceCtorEq, Nat.reduceEqDiff, Nat.reduceAdd, Nat.reduceLeDiff, Nat.reduceMul, Nat.reduceLT, Nat.reduceBEq, Int.reduceEq, tI_2, zI_2, underlying2, tI_3, zI_3, underlying3, tI_4, zI_4, underlying4, tI_5, zI_5, underlying5, tI_6, zI_6, underlying6, tI_8, zI_8, fI_8_0, fI_8_1, fI_8_2, fI_8_3, bI_8, tI_9, zI_9, underlying9, tI_19, zI_19, fI_19_0, bI_19, tI_21, zI_21, underlying21, tI_22, zI_22, eI_22, eB_22, eZ_22, underlying22, tI_24, zI_24, fI_24_0, bI_24, tI_27, zI_27, eI_27, eB_27, eZ_27, underlying27, tI_64, zI_64, fI_64_0, fI_64_1, bI_64]
  refine ⟨fun h5 => ?_, fun h5 => ?_⟩
  case refine_2 =>
    simp only [decide_eq_false_iff_not, Int.ofNat_lt] at h5
    have ha : (sb s).all letter = true := all_of fun j c hc => hall j c (by have := (List.getElem?_eq_some_iff.1 hc).1; rw [sb_len] at this; omega) hc
    repeat' (first
      | (simp -implicitDefEqProofs only [*, evb0, evb1, evb2, evb3, evb4, evb5, evb6, evb7, evb8, evb9, ↓evZ2, ↓evZ3, ↓Int.cast_ofNat_Int, implies_true, ne_eq, or_false, false_or, or_self, gt_iff_lt, isMut, aFn, List.contains, List.elem, aBox, aField, aLoad, sub, aNil, aPick, aExt, aFld, gd, noJunk, plainOp, aBuildSlice, aBuild, aFill, aParts, seqParts, fitAll, List.range', ↓reduceIte, reduceCtorEq, Nat.reduceEqDiff, Nat.reduceAdd, Nat.reduceLeDiff, Nat.reduceMul, Nat.reduceLT, Nat.reduceBEq, Int.reduceEq, tI_2, zI_2, underlying2, tI_3, zI_3, underlying3, tI_4, zI_4, underlying4, tI_5, zI_5, underlying5, tI_6, zI_6, underlying6, tI_8, zI_8, fI_8_0, fI_8_1, fI_8_2, fI_8_3, bI_8, tI_9, zI_9, underlying9, tI_19, zI_19, fI_19_0, bI_19, tI_21, zI_21, underlying21, tI_22, zI_22, eI_22, eB_22, eZ_22, underlying22, tI_24, zI_24, fI_24_0, bI_24, tI_27, zI_27, eI_27, eB_27, eZ_27, underlying27, tI_64, zI_64, fI_64_0, fI_64_1, bI_64])
      | (refine opsG_split (fun h => ?_) (fun h => ?_))
      
      | (refine cond_split (fun h => ?_) (fun h => ?_)))
    all_goals simp only [letters, ha, Bool.true_and, AV.bool.injEq]
    all_goals simp only [*, Bool.not_true, Bool.true_and, Bool.false_and]
  simp only [decide_eq_true_eq, Int.ofNat_lt] at h5
  obtain ⟨c, hc⟩ : ∃ c, (sb s)[i]? = some c := ⟨_, List.getElem?_eq_getElem (by rw [sb_len]; exact h5)⟩
  have hx := idx_byte (P := prog) (t := 9) underlying9 hc
  simp -implicitDefEqProofs only [hx, evb0, evb1, evb2, evb3, evb4, evb5, evb6, evb7, evb8, evb9, ↓evZ2, ↓evZ3, ↓Int.cast_ofNat_Int, implies_true, ne_eq, or_false, false_or, or_self, gt_iff_lt, isMut, aFn, List.contains, List.elem, aBox, aField, aLoad, sub, aNil, aPick, aExt, aFld, gd, noJunk, plainOp, aBuildSlice, aBuild, aFill, aParts, seqParts, fitAll, List.range', ↓reduceIte, reduceCtorEq, Nat.reduceEqDiff, Nat.reduceAdd, Nat.reduceLeDiff, Nat.reduceMul, Nat.reduceLT, Nat.reduceBEq, Int.reduceEq, tI_2, zI_2, underlying2, tI_3, zI_3, underlying3, tI_4, zI_4, underlying4, tI_5, zI_5, underlying5, tI_6, zI_6, underlying6, tI_8, zI_8, fI_8_0, fI_8_1, fI_8_2, fI_8_3, bI_8, tI_9, zI_9, underlying9, tI_19, zI_19, fI_19_0, bI_19, tI_21, zI_21, underlying21, tI_22, zI_22, eI_22, eB_22, eZ_22, underlying22, tI_24, zI_24, fI_24_0, bI_24, tI_27, zI_27, eI_27, eB_27, eZ_27, underlying27, tI_64, zI_64, fI_64_0, fI_64_1, bI_64]
  refine opsG_split (fun h6 => ?_) (fun h6 => ?_)
  case refine_2 =>
    simp -implicitDefEqProofs only [h6, evb0, evb1, evb2, evb3, evb4, evb5, evb6, evb7, evb8, evb9, ↓evZ2, ↓evZ3, ↓Int.cast_ofNat_Int, implies_true, ne_eq, or_false, false_or, or_self, gt_iff_lt, isMut, aFn, List.contains, List.elem, aBox, aField, aLoad, sub, aNil, aPick, aExt, aFld, gd, noJunk, plainOp, aBuildSlice, aBuild, aFill, aParts, seqParts, fitAll, List.range', ↓reduceIte, reduceCtorEq, Nat.reduceEqDiff, Nat.reduceAdd, Nat.reduceLeDiff, Nat.reduceMul, Nat.reduceLT, Nat.reduceBEq, Int.reduceEq, tI_2, zI_2, underlying2, tI_3, zI_3, underlying3, tI_4, zI_4, underlying4, tI_5, zI_5, underlying5, tI_6, zI_6, underlying6, tI_8, zI_8, fI_8_0, fI_8_1, fI_8_2, fI_8_3, bI_8, tI_9, zI_9, underlying9, tI_19, zI_19, fI_19_0, bI_19, tI_21, zI_21, underlying21, tI_22, zI_22, eI_22, eB_22, eZ_22, underlying22, tI_24, zI_24, fI_24_0, bI_24, tI_27, zI_27, eI_27, eB_27, eZ_27, underlying27, tI_64, zI_64, fI_64_0, fI_64_1, bI_64]
    simp only [Bool.not_false, decide_eq_true_eq] at h6
    simp only [letters, all_at hc (show letter c = false by simp [letter]; omega), Bool.false_and]
  simp -implicitDefEqProofs only [h6, hx, evb0, evb1, evb2, evb3, evb4, evb5, evb6, evb7, evb8, evb9, ↓evZ2, ↓evZ3, ↓Int.cast_ofNat_Int, implies_true, ne_eq, or_false, false_or, or_self, gt_iff_lt, isMut, aFn, List.contains, List.elem, aBox, aField, aLoad, sub, aNil, aPick, aExt, aFld, gd, noJunk, plainOp, aBuildSlice, aBuild, aFill, aParts, seqParts, fitAll, List.range', ↓reduceIte, reduceCtorEq, Nat.reduceEqDiff, Nat.reduceAdd, Nat.reduceLeDiff, Nat.reduceMul, Nat.reduceLT, Nat.reduceBEq, Int.reduceEq, tI_2, zI_2, underlying2, tI_3, zI_3, underlying3, tI_4, zI_4, underlying4, tI_5, zI_5, underlying5, tI_6, zI_6, underlying6, tI_8, zI_8, fI_8_0, fI_8_1, fI_8_2, fI_8_3, bI_8, tI_9, zI_9, underlying9, tI_19, zI_19, fI_19_0, bI_19, tI_21, zI_21, underlying21, tI_22, zI_22, eI_22, eB_22, eZ_22, underlying22, tI_24, zI_24, fI_24_0, bI_24, tI_27, zI_27, eI_27, eB_27, eZ_27, underlying27, tI_64, zI_64, fI_64_0, fI_64_1, bI_64]
  refine ⟨fun h7 => ?_, fun h7 => ?_⟩
  · simp -implicitDefEqProofs only [evb0, evb1, evb2, evb3, evb4, evb5, evb6, evb7, evb8, evb9, ↓evZ2, ↓evZ3, ↓Int.cast_ofNat_Int, implies_true, ne_eq, or_false, false_or, or_self, gt_iff_lt, isMut, aFn, List.contains, List.elem, aBox, aField, aLoad, sub, aNil, aPick, aExt, aFld, gd, noJunk, plainOp, aBuildSlice, aBuild, aFill, aParts, seqParts, fitAll, List.range', ↓reduceIte, reduceCtorEq, Nat.reduceEqDiff, Nat.reduceAdd, Nat.reduceLeDiff, Nat.reduceMul, Nat.reduceLT, Nat.reduceBEq, Int.reduceEq, tI_2, zI_2, underlying2, tI_3, zI_3, underlying3, tI_4, zI_4, underlying4, tI_5, zI_5, underlying5, tI_6, zI_6, underlying6, tI_8, zI_8, fI_8_0, fI_8_1, fI_8_2, fI_8_3, bI_8, tI_9, zI_9, underlying9, tI_19, zI_19, fI_19_0, bI_19, tI_21, zI_21, underlying21, tI_22, zI_22, eI_22, eB_22, eZ_22, underlying22, tI_24, zI_24, fI_24_0, bI_24, tI_27, zI_27, eI_27, eB_27, eZ_27, underlying27, tI_64, zI_64, fI_64_0, fI_64_1, bI_64]
    simp only [decide_eq_true_eq] at h7
    simp only [letters, all_at hc (show letter c = false by simp [letter]; omega), Bool.false_and]
  simp only [decide_eq_false_iff_not] at h6 h7
  simp -implicitDefEqProofs only [evb0, evb1, evb2, evb3, evb4, evb5, evb6, evb7, evb8, evb9, ↓evZ2, ↓evZ3, ↓Int.cast_ofNat_Int, implies_true, ne_eq, or_false, false_or, or_self, gt_iff_lt, isMut, aFn, List.contains, List.elem, aBox, aField, aLoad, sub, aNil, aPick, aExt, aFld, gd, noJunk, plainOp, aBuildSlice, aBuild, aFill, aParts, seqParts, fitAll, List.range', ↓reduceIte, reduceCtorEq, Nat.reduceEqDiff, Nat.reduceAdd, Nat.reduceLeDiff, Nat.reduceMul, Nat.reduceLT, Nat.reduceBEq, Int.reduceEq, tI_2, zI_2, underlying2, tI_3, zI_3, underlying3, tI_4, zI_4, underlying4, tI_5, zI_5, underlying5, tI_6, zI_6, underlying6, tI_8, zI_8, fI_8_0, fI_8_1, fI_8_2, fI_8_3, bI_8, tI_9, zI_9, underlying9, tI_19, zI_19, fI_19_0, bI_19, tI_21, zI_21, underlying21, tI_22, zI_22, eI_22, eB_22, eZ_22, underlying22, tI_24, zI_24, fI_24_0, bI_24, tI_27, zI_27, eI_27, eB_27, eZ_27, underlying27, tI_64, zI_64, fI_64_0, fI_64_1, bI_64]
  refine ⟨i + 1, by omega, ⟨by omega, fun j u hj hu => ?_⟩, LessL.mk ?_⟩
  · rcases Nat.lt_or_ge j i with h8 | h8
    · exact hall j u h8 hu
    · obtain rfl : j = i := by omega
      rw [hc] at hu; cases hu
      simp [letter]; omega
  · have := wrap64 (n := (i : Int) + 1) (by omega) (by omega)
    simp -implicitDefEqProofs only [this, evb0, evb1, evb2, evb3, evb4, evb5, evb6, evb7, evb8, evb9, ↓evZ2, ↓evZ3, ↓Int.cast_ofNat_Int, implies_true, ne_eq, or_false, false_or, or_self, gt_iff_lt, isMut, aFn, List.contains, List.elem, aBox, aField, aLoad, sub, aNil, aPick, aExt, aFld, gd, noJunk, plainOp, aBuildSlice, aBuild, aFill, aParts, seqParts, fitAll, List.range', ↓reduceIte, reduceCtorEq, Nat.reduceEqDiff, Nat.reduceAdd, Nat.reduceLeDiff, Nat.reduceMul, Nat.reduceLT, Nat.reduceBEq, Int.reduceEq, tI_2, zI_2, underlying2, tI_3, zI_3, underlying3, tI_4, zI_4, underlying4, tI_5, zI_5, underlying5, tI_6, zI_6, underlying6, tI_8, zI_8, fI_8_0, fI_8_1, fI_8_2, fI_8_3, bI_8, tI_9, zI_9, underlying9, tI_19, zI_19, fI_19_0, bI_19, tI_21, zI_21, underlying21, tI_22, zI_22, eI_22, eB_22, eZ_22, underlying22, tI_24, zI_24, fI_24_0, bI_24, tI_27, zI_27, eI_27, eB_27, eZ_27, underlying27, tI_64, zI_64, fI_64_0, fI_64_1, bI_64]
theorem c_isLetters (s : ByteArray) (st : Store) : ACalls prog 173 [.str s] st (fun r st' => r = .bool (letters s) ∧ st' = st) := by
  refine acalls_fit [] func173 ntmps173 rfl rfl (by kernel_rfl) (by decide +kernel) (by show 1 ≤ _; decide +kernel) ?_
  simp only [fitsL, AV.fits, and_true]
  intro hs
  simp -implicitDefEqProofs only [evb0, evb1, evb2, evb3, evb4, evb5, evb6, evb7, evb8, evb9, ↓evZ2, ↓evZ3, ↓Int.cast_ofNat_Int, implies_true, ne_eq, or_false, false_or, or_self, gt_iff_lt, isMut, aFn, List.contains, List.elem, aBox, aField, aLoad, sub, aNil, aPick, aExt, aFld, gd, noJunk, plainOp, aBuildSlice, aBuild, aFill, aParts, seqParts, fitAll, List.range', ↓reduceIte, reduceCtorEq, Nat.reduceEqDiff, Nat.reduceAdd, Nat.reduceLeDiff, Nat.reduceMul, Nat.reduceLT, Nat.reduceBEq, Int.reduceEq, tI_2, zI_2, underlying2, tI_3, zI_3, underlying3, tI_4, zI_4, underlying4, tI_5, zI_5, underlying5, tI_6, zI_6, underlying6, tI_7, zI_7, fI_7_0, fI_7_1, fI_7_2, fI_7_3, bI_7, tI_8, zI_8, fI_8_0, fI_8_1, fI_8_2, fI_8_3, bI_8, tI_9, zI_9, underlying9, tI_19, zI_19, fI_19_0, bI_19, tI_21, zI_21, underlying21, tI_22, zI_22, eI_22, eB_22, eZ_22, underlying22, tI_23, zI_23, fI_23_0, bI_23, tI_41, zI_41, fI_41_0, fI_41_1, fI_41_2, fI_41_3, bI_41, tI_64, zI_64, fI_64_0, fI_64_1, bI_64]
  refine arun_loopL (α := Nat) [] (fun i => i ≤ s.size ∧ ∀ (j : Nat) c, j < i → (sb s)[j]? = some c → letter c = true)
    (fun i => [(0, .str s), (5, .int .i64 s.size), (6, .int .i64 i)]) (fun _ => st) (fun i => s.size - i) (by decide +kernel)
    ⟨0, ⟨by omega, by intro j x h; omega⟩, LessL.mk (by simp -implicitDefEqProofs only [evb0, evb1, evb2, evb3, evb4, evb5, evb6, evb7, evb8, evb9, ↓evZ2, ↓evZ3, ↓Int.cast_ofNat_Int, implies_true, ne_eq, or_false, false_or, or_self, gt_iff_lt, isMut, aFn, List.contains, List.elem, aBox, aField, aLoad, sub, aNil, aPick, aExt, aFld, gd, noJunk, plainOp, aBuildSlice, aBuild, aFill, aParts, seqParts, fitAll, List.range', ↓reduceIte, reduceCtorEq, Nat.reduceEqDiff, Nat.reduceAdd, Nat.reduceLeDiff, Nat.reduceMul, Nat.reduceLT, Nat.reduceBEq, Int.reduceEq, tI_2, zI_2, underlying2, tI_3, zI_3, underlying3, tI_4, zI_4, underlying4, tI_5, zI_5, underlying5, tI_6, zI_6, underlying6, tI_7, zI_7, fI_7_0, fI_7_1, fI_7_2, fI_7_3, bI_7, tI_8, zI_8, fI_8_0, fI_8_1, fI_8_2, fI_8_3, bI_8, tI_9, zI_9, underlying9, tI_19, zI_19, fI_19_0, bI_19, tI_21, zI_21, underlying21, tI_22, zI_22, eI_22, eB_22, eZ_22, underlying22, tI_23, zI_23, fI_23_0, bI_23, tI_41, zI_41, fI_41_0, fI_41_1, fI_41_2, fI_41_3, bI_41, tI_64, zI_64, fI_64_0, fI_64_1, bI_64])⟩ ?_
  intro i ⟨hi, hall⟩
  simp -implicitDefEqProofs only [evb0, evb1, evb2, evb3, evb4, evb5, evb6, evb7, evb8, evb9, ↓evZ2, ↓evZ3, ↓Int.cast_ofNat_Int, implies_true, ne_eq, or_false, false_or, or_self, gt_iff_lt, isMut, aFn, List.contains, List.elem, aBox, aField, aLoad, sub, aNil, aPick, aExt, aFld, gd, noJunk, plainOp, aBuildSlice, aBuild, aFill, aParts, seqParts, fitAll, List.range', ↓reduceIte, reduceCtorEq, Nat.reduceEqDiff, Nat.reduceAdd, Nat.reduceLeDiff, Nat.reduceMul, Nat.reduceLT, Nat.reduceBEq, Int.reduceEq, tI_2, zI_2, underlying2, tI_3, zI_3, underlying3, tI_4, zI_4, underlying4, tI_5, zI_5, underlying5, tI_6, zI_6, underlying6, tI_7, zI_7, fI_7_0, fI_7_1, fI_7_2, fI_7_3, bI_7, tI_8, zI_8, fI_8_0, fI_8_1, fI_8_2, fI_8_3, bI_8, tI_9, zI_9, underlying9, tI_19, zI_19, fI_19_0, bI_19, tI_21, zI_21, underlying21, tI_22, zI_22, eI_22, eB_22, eZ_22, underlying22, tI_23, zI_23, fI_23_0, bI_23, tI_41, zI_41, fI_41_0, fI_41_1, fI_41_2, fI_41_3, bI_41, tI_64, zI_64, fI_64_0, fI_64_1, bI_64]
  refine ⟨fun h5 => ?_, fun h5 => ?_⟩
  case refine_2 =>
    simp only [decide_eq_false_iff_not, Int.ofNat_lt] at h5
    have ha : (sb s).all letter = true := all_of fun j c hc => hall j c (by have := (List.getElem?_eq_some_iff.1 hc).1; rw [sb_len] at this; omega) hc
    simp -implicitDefEqProofs only [evb0, evb1, evb2, evb3, evb4, evb5, evb6, evb7, evb8, evb9, ↓evZ2, ↓evZ3, ↓Int.cast_ofNat_Int, implies_true, ne_eq, or_false, false_or, or_self, gt_iff_lt, isMut, aFn, List.contains, List.elem, aBox, aField, aLoad, sub, aNil, aPick, aExt, aFld, gd, noJunk, plainOp, aBuildSlice, aBuild, aFill, aParts, seqParts, fitAll, List.range', ↓reduceIte, reduceCtorEq, Nat.reduceEqDiff, Nat.reduceAdd, Nat.reduceLeDiff, Nat.reduceMul, Nat.reduceLT, Nat.reduceBEq, Int.reduceEq, tI_2, zI_2, underlying2, tI_3, zI_3, underlying3, tI_4, zI_4, underlying4, tI_5, zI_5, underlying5, tI_6, zI_6, underlying6, tI_7, zI_7, fI_7_0, fI_7_1, fI_7_2, fI_7_3, bI_7, tI_8, zI_8, fI_8_0, fI_8_1, fI_8_2, fI_8_3, bI_8, tI_9, zI_9, underlying9, tI_19, zI_19, fI_19_0, bI_19, tI_21, zI_21, underlying21, tI_22, zI_22, eI_22, eB_22, eZ_22, underlying22, tI_23, zI_23, fI_23_0, bI_23, tI_41, zI_41, fI_41_0, fI_41_1, fI_41_2, fI_41_3, bI_41, tI_64, zI_64, fI_64_0, fI_64_1, bI_64]
    refine (c_within _ _ _ st).to ?_
    simp -implicitDefEqProofs only [evb0, evb1, evb2, evb3, evb4, evb5, evb6, evb7, evb8, evb9, ↓evZ2, ↓evZ3, ↓Int.cast_ofNat_Int, implies_true, ne_eq, or_false, false_or, or_self, gt_iff_lt, isMut, aFn, List.contains, List.elem, aBox, aField, aLoad, sub, aNil, aPick, aExt, aFld, gd, noJunk, plainOp, aBuildSlice, aBuild, aFill, aParts, seqParts, fitAll, List.range', ↓reduceIte, reduceCtorEq, Nat.reduceEqDiff, Nat.reduceAdd, Nat.reduceLeDiff, Nat.reduceMul, Nat.reduceLT, Nat.reduceBEq, Int.reduceEq, tI_2, zI_2, underlying2, tI_3, zI_3, underlying3, tI_4, zI_4, underlying4, tI_5, zI_5, underlying5, tI_6, zI_6, underlying6, tI_7, zI_7, fI_7_0, fI_7_1, fI_7_2, fI_7_3, bI_7, tI_8, zI_8, fI_8_0, fI_8_1, fI_8_2, fI_8_3, bI_8, tI_9, zI_9, underlying9, tI_19, zI_19, fI_19_0, bI_19, tI_21, zI_21, underlying21, tI_22, zI_22, eI_22, eB_22, eZ_22, underlying22, tI_23, zI_23, fI_23_0, bI_23, tI_41, zI_41, fI_41_0, fI_41_1, fI_41_2, fI_41_3, bI_41, tI_64, zI_64, fI_64_0, fI_64_1, bI_64]
    simp only [letters, ha, Bool.true_and]
  simp only [decide_eq_true_eq, Int.ofNat_lt] at h5
  obtain ⟨c, hc⟩ : ∃ c, (sb s)[i]? = some c := ⟨_, List.getElem?_eq_getElem (by rw [sb_len]; exact h5)⟩
  have hx := idx_byte (P := prog) (t := 9) underlying9 hc
  simp -implicitDefEqProofs only [hx, evb0, evb1, evb2, evb3, evb4, evb5, evb6, evb7, evb8, evb9, ↓evZ2, ↓evZ3, ↓Int.cast_ofNat_Int, implies_true, ne_eq, or_false, false_or, or_self, gt_iff_lt, isMut, aFn, List.contains, List.elem, aBox, aField, aLoad, sub, aNil, aPick, aExt, aFld, gd, noJunk, plainOp, aBuildSlice, aBuild, aFill, aParts, seqParts, fitAll, List.range', ↓reduceIte, reduceCtorEq, Nat.reduceEqDiff, Nat.reduceAdd, Nat.reduceLeDiff, Nat.reduceMul, Nat.reduceLT, Nat.reduceBEq, Int.reduceEq, tI_2, zI_2, underlying2, tI_3, zI_3, underlying3, tI_4, zI_4, underlying4, tI_5, zI_5, underlying5, tI_6, zI_6, underlying6, tI_7, zI_7, fI_7_0, fI_7_1, fI_7_2, fI_7_3, bI_7, tI_8, zI_8, fI_8_0, fI_8_1, fI_8_2, fI_8_3, bI_8, tI_9, zI_9, underlying9, tI_19, zI_19, fI_19_0, bI_19, tI_21, zI_21, underlying21, tI_22, zI_22, eI_22, eB_22, eZ_22, underlying22, tI_23, zI_23, fI_23_0, bI_23, tI_41, zI_41, fI_41_0, fI_41_1, fI_41_2, fI_41_3, bI_41, tI_64, zI_64, fI_64_0, fI_64_1, bI_64]
  refine opsG_split (fun h6 => ?_) (fun h6 => ?_)
  case refine_2 =>
    simp -implicitDefEqProofs only [h6, evb0, evb1, evb2, evb3, evb4, evb5, evb6, evb7, evb8, evb9, ↓evZ2, ↓evZ3, ↓Int.cast_ofNat_Int, implies_true, ne_eq, or_false, false_or, or_self, gt_iff_lt, isMut, aFn, List.contains, List.elem, aBox, aField, aLoad, sub, aNil, aPick, aExt, aFld, gd, noJunk, plainOp, aBuildSlice, aBuild, aFill, aParts, seqParts, fitAll, List.range', ↓reduceIte, reduceCtorEq, Nat.reduceEqDiff, Nat.reduceAdd, Nat.reduceLeDiff, Nat.reduceMul, Nat.reduceLT, Nat.reduceBEq, Int.reduceEq, tI_2, zI_2, underlying2, tI_3, zI_3, underlying3, tI_4, zI_4, underlying4, tI_5, zI_5, underlying5, tI_6, zI_6, underlying6, tI_7, zI_7, fI_7_0, fI_7_1, fI_7_2, fI_7_3, bI_7, tI_8, zI_8, fI_8_0, fI_8_1, fI_8_2, fI_8_3, bI_8, tI_9, zI_9, underlying9, tI_19, zI_19, fI_19_0, bI_19, tI_21, zI_21, underlying21, tI_22, zI_22, eI_22, eB_22, eZ_22, underlying22, tI_23, zI_23, fI_23_0, bI_23, tI_41, zI_41, fI_41_0, fI_41_1, fI_41_2, fI_41_3, bI_41, tI_64, zI_64, fI_64_0, fI_64_1, bI_64]
    simp only [Bool.not_false, decide_eq_true_eq] at h6
    simp only [letters, all_at hc (show letter c = false by simp [letter]; omega), Bool.false_and]
  simp -implicitDefEqProofs only [h6, hx, evb0, evb1, evb2, evb3, evb4, evb5, evb6, evb7, evb8, evb9, ↓evZ2, ↓evZ3, ↓Int.cast_ofNat_Int, implies_true, ne_eq, or_false, false_or, or_self, gt_iff_lt, isMut, aFn, List.contains, List.elem, aBox, aField, aLoad, sub, aNil, aPick, aExt, aFld, gd, noJunk, plainOp, aBuildSlice, aBuild, aFill, aParts, seqParts, fitAll, List.range', ↓reduceIte, reduceCtorEq, Nat.reduceEqDiff, Nat.reduceAdd, Nat.reduceLeDiff, Nat.reduceMul, Nat.reduceLT, Nat.reduceBEq, Int.reduceEq, tI_2, zI_2, underlying2, tI_3, zI_3, underlying3, tI_4, zI_4, underlying4, tI_5, zI_5, underlying5, tI_6, zI_6, underlying6, tI_7, zI_7, fI_7_0, fI_7_1, fI_7_2, fI_7_3, bI_7, tI_8, zI_8, fI_8_0, fI_8_1, fI_8_2, fI_8_3, bI_8, tI_9, zI_9, underlying9, tI_19, zI_19, fI_19_0, bI_19, tI_21, zI_21, underlying21, tI_22, zI_22, eI_22, eB_22, eZ_22, underlying22, tI_23, zI_23, fI_23_0, bI_23, tI_41, zI_41, fI_41_0, fI_41_1, fI_41_2, fI_41_3, bI_41, tI_64, zI_64, fI_64_0, fI_64_1, bI_64]
  refine ⟨fun h7 => ?_, fun h7 => ?_⟩
  · simp -implicitDefEqProofs only [evb0, evb1, evb2, evb3, evb4, evb5, evb6, evb7, evb8, evb9, ↓evZ2, ↓evZ3, ↓Int.cast_ofNat_Int, implies_true, ne_eq, or_false, false_or, or_self, gt_iff_lt, isMut, aFn, List.contains, List.elem, aBox, aField, aLoad, sub, aNil, aPick, aExt, aFld, gd, noJunk, plainOp, aBuildSlice, aBuild, aFill, aParts, seqParts, fitAll, List.range', ↓reduceIte, reduceCtorEq, Nat.reduceEqDiff, Nat.reduceAdd, Nat.reduceLeDiff, Nat.reduceMul, Nat.reduceLT, Nat.reduceBEq, Int.reduceEq, tI_2, zI_2, underlying2, tI_3, zI_3, underlying3, tI_4, zI_4, underlying4, tI_5, zI_5, underlying5, tI_6, zI_6, underlying6, tI_7, zI_7, fI_7_0, fI_7_1, fI_7_2, fI_7_3, bI_7, tI_8, zI_8, fI_8_0, fI_8_1, fI_8_2, fI_8_3, bI_8, tI_9, zI_9, underlying9, tI_19, zI_19, fI_19_0, bI_19, tI_21, zI_21, underlying21, tI_22, zI_22, eI_22, eB_22, eZ_22, underlying22, tI_23, zI_23, fI_23_0, bI_23, tI_41, zI_41, fI_41_0, fI_41_1, fI_41_2, fI_41_3, bI_41, tI_64, zI_64, fI_64_0, fI_64_1, bI_64]
    simp only [decide_eq_true_eq] at h7
    simp only [letters, all_at hc (show letter c = false by simp [letter]; omega), Bool.false_and]
  simp only [decide_eq_false_iff_not] at h6 h7
  simp -implicitDefEqProofs only [evb0, evb1, evb2, evb3, evb4, evb5, evb6, evb7, evb8, evb9, ↓evZ2, ↓evZ3, ↓Int.cast_ofNat_Int, implies_true, ne_eq, or_false, false_or, or_self, gt_iff_lt, isMut, aFn, List.contains, List.elem, aBox, aField, aLoad, sub, aNil, aPick, aExt, aFld, gd, noJunk, plainOp, aBuildSlice, aBuild, aFill, aParts, seqParts, fitAll, List.range', ↓reduceIte, reduceCtorEq, Nat.reduceEqDiff, Nat.reduceAdd, Nat.reduceLeDiff, Nat.reduceMul, Nat.reduceLT, Nat.reduceBEq, Int.reduceEq, tI_2, zI_2, underlying2, tI_3, zI_3, underlying3, tI_4, zI_4, underlying4, tI_5, zI_5, underlying5, tI_6, zI_6, underlying6, tI_7, zI_7, fI_7_0, fI_7_1, fI_7_2, fI_7_3, bI_7, tI_8, zI_8, fI_8_0, fI_8_1, fI_8_2, fI_8_3, bI_8, tI_9, zI_9, underlying9, tI_19, zI_19, fI_19_0, bI_19, tI_21, zI_21, underlying21, tI_22, zI_22, eI_22, eB_22, eZ_22, underlying22, tI_23, zI_23, fI_23_0, bI_23, tI_41, zI_41, fI_41_0, fI_41_1, fI_41_2, fI_41_3, bI_41, tI_64, zI_64, fI_64_0, fI_64_1, bI_64]
  refine ⟨i + 1, by omega, ⟨by omega, fun j u hj hu => ?_⟩, LessL.mk ?_⟩
  · rcases Nat.lt_or_ge j i with h8 | h8
    · exact hall j u h8 hu
    · obtain rfl : j = i := by omega
      rw [hc] at hu; cases hu
      simp [letter]; omega
  · have := wrap64 (n := (i : Int) + 1) (by omega) (by omega)
    simp -implicitDefEqProofs only [this, evb0, evb1, evb2, evb3, evb4, evb5, evb6, evb7, evb8, evb9, ↓evZ2, ↓evZ3, ↓Int.cast_ofNat_Int, implies_true, ne_eq, or_false, false_or, or_self, gt_iff_lt, isMut, aFn, List.contains, List.elem, aBox, aField, aLoad, sub, aNil, aPick, aExt, aFld, gd, noJunk, plainOp, aBuildSlice, aBuild, aFill, aParts, seqParts, fitAll, List.range', ↓reduceIte, reduceCtorEq, Nat.reduceEqDiff, Nat.reduceAdd, Nat.reduceLeDiff, Nat.reduceMul, Nat.reduceLT, Nat.reduceBEq, Int.reduceEq, tI_2, zI_2, underlying2, tI_3, zI_3, underlying3, tI_4, zI_4, underlying4, tI_5, zI_5, underlying5, tI_6, zI_6, underlying6, tI_7, zI_7, fI_7_0, fI_7_1, fI_7_2, fI_7_3, bI_7, tI_8, zI_8, fI_8_0, fI_8_1, fI_8_2, fI_8_3, bI_8, tI_9, zI_9, underlying9, tI_19, zI_19, fI_19_0, bI_19, tI_21, zI_21, underlying21, tI_22, zI_22, eI_22, eB_22, eZ_22, underlying22, tI_23, zI_23, fI_23_0, bI_23, tI_41, zI_41, fI_41_0, fI_41_1, fI_41_2, fI_41_3, bI_41, tI_64, zI_64, fI_64_0, fI_64_1, bI_64]

theorem c_isOp (s : ByteArray) (st : Store) : ACalls prog 201 [.str s] st (fun r st' => r = .bool (decide ((0 : Int) < (opLevel s : Int))) ∧ st' = st) := by
  refine acalls_fit [] func201 ntmps201 rfl rfl (by kernel_rfl) (by decide +kernel) (by show 1 ≤ _; decide +kernel) ?_
  intro _
  simp -implicitDefEqProofs only [evb0, evb1, evb2, evb3, evb4, evb5, evb6, evb7, evb8, evb9, ↓evZ2, ↓evZ3, ↓Int.cast_ofNat_Int, implies_true, ne_eq, or_false, false_or, or_self, gt_iff_lt, isMut, aFn, List.contains, List.elem, aBox, aField, aLoad, sub, aNil, aPick, aExt, aFld, gd, noJunk, plainOp, aBuildSlice, aBuild, aFill, aParts, seqParts, fitAll, List.range', ↓reduceIte, reduceCtorEq, Nat.reduceEqDiff, Nat.reduceAdd, Nat.reduceLeDiff, Nat.reduceMul, Nat.reduceLT, Nat.reduceBEq, Int.reduceEq, tI_2, zI_2, underlying2, tI_3, zI_3, underlying3, tI_4, zI_4, underlying4, tI_6, zI_6, underlying6, tI_7, zI_7, fI_7_0, fI_7_1, fI_7_2, fI_7_3, bI_7, tI_9, zI_9, underlying9, tI_12, zI_12, underlying12, tI_64, zI_64, fI_64_0, fI_64_1, bI_64]
  refine (c_OpLevel s st).to ?_
  simp -implicitDefEqProofs only [evb0, evb1, evb2, evb3, evb4, evb5, evb6, evb7, evb8, evb9, ↓evZ2, ↓evZ3, ↓Int.cast_ofNat_Int, implies_true, ne_eq, or_false, false_or, or_self, gt_iff_lt, isMut, aFn, List.contains, List.elem, aBox, aField, aLoad, sub, aNil, aPick, aExt, aFld, gd, noJunk, plainOp, aBuildSlice, aBuild, aFill, aParts, seqParts, fitAll, List.range', ↓reduceIte, reduceCtorEq, Nat.reduceEqDiff, Nat.reduceAdd, Nat.reduceLeDiff, Nat.reduceMul, Nat.reduceLT, Nat.reduceBEq, Int.reduceEq, tI_2, zI_2, underlying2, tI_3, zI_3, underlying3, tI_4, zI_4, underlying4, tI_6, zI_6, underlying6, tI_7, zI_7, fI_7_0, fI_7_1, fI_7_2, fI_7_3, bI_7, tI_9, zI_9, underlying9, tI_12, zI_12, underlying12, tI_64, zI_64, fI_64_0, fI_64_1, bI_64]

theorem c_isAtom (k n : Int) (s : ByteArray) (ts : List Tm) (st : Store) : ACalls prog 157 [(Tm.mk k n s ts).av] st (fun r st' => r = .bool (decide (k = 3) && decide ((ts.length : Int) = 0)) ∧ st' = st) := by
  refine acalls_fit [] func157 ntmps157 rfl rfl (by kernel_rfl) (by decide +kernel) (by show 1 ≤ _; decide +kernel) ?_
  intro _
  simp only [Tm.av_mk]
  repeat' (first
    | (simp -implicitDefEqProofs only [*, evb0, evb1, evb2, evb3, evb4, evb5, evb6, evb7, evb8, evb9, ↓evZ2, ↓evZ3, ↓Int.cast_ofNat_Int, implies_true, ne_eq, or_false, false_or, or_self, gt_iff_lt, isMut, aFn, List.contains, List.elem, aBox, aField, aLoad, sub, aNil, aPick, aExt, aFld, gd, noJunk, plainOp, aBuildSlice, aBuild, aFill, aParts, seqParts, fitAll, List.range', ↓reduceIte, reduceCtorEq, Nat.reduceEqDiff, Nat.reduceAdd, Nat.reduceLeDiff, Nat.reduceMul, Nat.reduceLT, Nat.reduceBEq, Int.reduceEq, tI_3, zI_3, underlying3, tI_4, zI_4, underlying4, tI_8, zI_8, fI_8_0, fI_8_1, fI_8_2, fI_8_3, bI_8, tI_9, zI_9, underlying9, tI_12, zI_12, underlying12, tI_27, zI_27, eI_27, eB_27, eZ_27, underlying27, tI_41, zI_41, fI_41_0, fI_41_1, fI_41_2, fI_41_3, bI_41, tI_64, zI_64, fI_64_0, fI_64_1, bI_64, tI_102, zI_102])
    | (refine opsG_split (fun h => ?_) (fun h => ?_))
    
    | (refine cond_split (fun h => ?_) (fun h => ?_)))
  all_goals simp_all
end Go.AW


/- Names of signs: what the reference's and the program's functions return. -/
namespace Go.AW
open Go.Proofs.Try
set_option linter.unusedSimpArgs false
set_option maxRecDepth 100000

def signs : List ByteArray := [⟨#[43]⟩, ⟨#[45]⟩, ⟨#[42]⟩, ⟨#[47, 47]⟩, ⟨#[61]⟩, ⟨#[92, 61]⟩, ⟨#[61, 61]⟩, ⟨#[60]⟩, ⟨#[62]⟩, ⟨#[61, 60]⟩, ⟨#[62, 61]⟩, ⟨#[61, 58, 61]⟩, ⟨#[46]⟩, ⟨#[91, 93]⟩, ⟨#[33]⟩]

theorem c_symbols (st : Store) : ACalls prog 175 [] st (fun r st' => r = .fslice (signs.map .str) ∧ st' = st) := by
  refine acalls_fit [] func175 ntmps175 rfl rfl (by kernel_rfl) (by decide +kernel) (by show 0 ≤ _; decide +kernel) ?_
  intro _
  simp -implicitDefEqProofs only [signs, evb0, evb1, evb2, evb3, evb4, evb5, evb6, evb7, evb8, evb9, ↓evZ2, ↓evZ3, ↓Int.cast_ofNat_Int, implies_true, ne_eq, or_false, false_or, or_self, gt_iff_lt, isMut, aFn, List.contains, List.elem, aBox, aField, aLoad, sub, aNil, aPick, aExt, aFld, gd, noJunk, plainOp, aBuildSlice, aBuild, aFill, aParts, seqParts, fitAll, List.range', ↓reduceIte, reduceCtorEq, Nat.reduceEqDiff, Nat.reduceAdd, Nat.reduceLeDiff, Nat.reduceMul, Nat.reduceLT, Nat.reduceBEq, Int.reduceEq, tI_2, zI_2, underlying2, tI_3, zI_3, underlying3, tI_4, zI_4, underlying4, tI_5, zI_5, underlying5, tI_6, zI_6, underlying6, tI_7, zI_7, fI_7_0, fI_7_1, fI_7_2, fI_7_3, bI_7, tI_8, zI_8, fI_8_0, fI_8_1, fI_8_2, fI_8_3, bI_8, tI_9, zI_9, underlying9, tI_10, zI_10, underlying10, tI_11, zI_11, underlying11, tI_12, zI_12, underlying12, tI_13, zI_13, fI_13_0, fI_13_1, bI_13, tI_14, zI_14, fI_14_0, fI_14_1, bI_14, tI_15, zI_15, tI_58, zI_58, fI_58_0, fI_58_1, bI_58, tI_60, zI_60, eI_60, eB_60, eZ_60, underlying60, tI_62, zI_62, eI_62, eB_62, eZ_62, underlying62, tI_91, zI_91, fI_91_0, fI_91_1, fI_91_2, fI_91_3, bI_91, tI_92, zI_92, fI_92_0, fI_92_1, fI_92_2, fI_92_3, bI_92, tI_93, zI_93, eI_93, eB_93, eZ_93, underlying93, tI_182, zI_182, eI_182, eB_182, eZ_182, underlying182]

theorem c_l1Signs (st : Store) : ACalls prog 207 [] st (fun r st' => r = .fslice (signs.map .str) ∧ st' = st) := by
  refine acalls_fit [] func207 ntmps207 rfl rfl (by kernel_rfl) (by decide +kernel) (by show 0 ≤ _; decide +kernel) ?_
  intro _
  simp -implicitDefEqProofs only [signs, evb0, evb1, evb2, evb3, evb4, evb5, evb6, evb7, evb8, evb9, ↓evZ2, ↓evZ3, ↓Int.cast_ofNat_Int, implies_true, ne_eq, or_false, false_or, or_self, gt_iff_lt, isMut, aFn, List.contains, List.elem, aBox, aField, aLoad, sub, aNil, aPick, aExt, aFld, gd, noJunk, plainOp, aBuildSlice, aBuild, aFill, aParts, seqParts, fitAll, List.range', ↓reduceIte, reduceCtorEq, Nat.reduceEqDiff, Nat.reduceAdd, Nat.reduceLeDiff, Nat.reduceMul, Nat.reduceLT, Nat.reduceBEq, Int.reduceEq, tI_2, zI_2, underlying2, tI_3, zI_3, underlying3, tI_4, zI_4, underlying4, tI_5, zI_5, underlying5, tI_6, zI_6, underlying6, tI_7, zI_7, fI_7_0, fI_7_1, fI_7_2, fI_7_3, bI_7, tI_8, zI_8, fI_8_0, fI_8_1, fI_8_2, fI_8_3, bI_8, tI_9, zI_9, underlying9, tI_10, zI_10, underlying10, tI_11, zI_11, underlying11, tI_12, zI_12, underlying12, tI_13, zI_13, fI_13_0, fI_13_1, bI_13, tI_14, zI_14, fI_14_0, fI_14_1, bI_14, tI_15, zI_15, tI_58, zI_58, fI_58_0, fI_58_1, bI_58, tI_60, zI_60, eI_60, eB_60, eZ_60, underlying60, tI_62, zI_62, eI_62, eB_62, eZ_62, underlying62, tI_91, zI_91, fI_91_0, fI_91_1, fI_91_2, fI_91_3, bI_91, tI_92, zI_92, fI_92_0, fI_92_1, fI_92_2, fI_92_3, bI_92, tI_93, zI_93, eI_93, eB_93, eZ_93, underlying93, tI_182, zI_182, eI_182, eB_182, eZ_182, underlying182]

theorem c_l1Has (l : List ByteArray) (s : ByteArray) (st : Store) : ACalls prog 206 [.slice (l.map .str), .str s] st (fun r st' => r = .bool (l.any fun x => decide (x = s)) ∧ st' = st) := by
  refine acalls_fit [] func206 ntmps206 rfl rfl (by kernel_rfl) (by decide +kernel) (by show 2 ≤ _; decide +kernel) ?_
  simp only [fitsL, AV.fits, and_true, List.length_map]
  intro ⟨⟨hl, _⟩, _⟩
  simp -implicitDefEqProofs only [evb0, evb1, evb2, evb3, evb4, evb5, evb6, evb7, evb8, evb9, ↓evZ2, ↓evZ3, ↓Int.cast_ofNat_Int, implies_true, ne_eq, or_false, false_or, or_self, gt_iff_lt, isMut, aFn, List.contains, List.elem, aBox, aField, aLoad, sub, aNil, aPick, aExt, aFld, gd, noJunk, plainOp, aBuildSlice, aBuild, aFill, aParts, seqParts, fitAll, List.range', ↓reduceIte, reduceCtorEq, Nat.reduceEqDiff, Nat.reduceAdd, Nat.reduceLeDiff, Nat.reduceMul, Nat.reduceLT, Nat.reduceBEq, Int.reduceEq, tI_2, zI_2, underlying2, tI_3, zI_3, underlying3, tI_4, zI_4, underlying4, tI_5, zI_5, underlying5, tI_6, zI_6, underlying6, tI_7, zI_7, fI_7_0, fI_7_1, fI_7_2, fI_7_3, bI_7, tI_8, zI_8, fI_8_0, fI_8_1, fI_8_2, fI_8_3, bI_8, tI_9, zI_9, underlying9, tI_12, zI_12, underlying12, tI_17, zI_17, tI_18, zI_18, fI_18_0, bI_18, tI_64, zI_64, fI_64_0, fI_64_1, bI_64, tI_182, zI_182, eI_182, eB_182, eZ_182, underlying182]
  refine arun_loopL (α := Nat) [] (fun i => i ≤ l.length ∧ ∀ (j : Nat) x, j < i → l[j]? = some x → decide (x = s) = false)
    (fun i => [(0, .slice (l.map .str)), (1, .str s), (5, .int .i64 i)]) (fun _ => st) (fun i => l.length - i) (by decide +kernel)
    ⟨0, ⟨by omega, by intro j x h; omega⟩, LessL.mk (by simp -implicitDefEqProofs only [evb0, evb1, evb2, evb3, evb4, evb5, evb6, evb7, evb8, evb9, ↓evZ2, ↓evZ3, ↓Int.cast_ofNat_Int, implies_true, ne_eq, or_false, false_or, or_self, gt_iff_lt, isMut, aFn, List.contains, List.elem, aBox, aField, aLoad, sub, aNil, aPick, aExt, aFld, gd, noJunk, plainOp, aBuildSlice, aBuild, aFill, aParts, seqParts, fitAll, List.range', ↓reduceIte, reduceCtorEq, Nat.reduceEqDiff, Nat.reduceAdd, Nat.reduceLeDiff, Nat.reduceMul, Nat.reduceLT, Nat.reduceBEq, Int.reduceEq, tI_2, zI_2, underlying2, tI_3, zI_3, underlying3, tI_4, zI_4, underlying4, tI_5, zI_5, underlying5, tI_6, zI_6, underlying6, tI_7, zI_7, fI_7_0, fI_7_1, fI_7_2, fI_7_3, bI_7, tI_8, zI_8, fI_8_0, fI_8_1, fI_8_2, fI_8_3, bI_8, tI_9, zI_9, underlying9, tI_12, zI_12, underlying12, tI_17, zI_17, tI_18, zI_18, fI_18_0, bI_18, tI_64, zI_64, fI_64_0, fI_64_1, bI_64, tI_182, zI_182, eI_182, eB_182, eZ_182, underlying182])⟩ ?_
  intro i ⟨hi, hall⟩
  simp -implicitDefEqProofs only [List.length_map, evb0, evb1, evb2, evb3, evb4, evb5, evb6, evb7, evb8, evb9, ↓evZ2, ↓evZ3, ↓Int.cast_ofNat_Int, implies_true, ne_eq, or_false, false_or, or_self, gt_iff_lt, isMut, aFn, List.contains, List.elem, aBox, aField, aLoad, sub, aNil, aPick, aExt, aFld, gd, noJunk, plainOp, aBuildSlice, aBuild, aFill, aParts, seqParts, fitAll, List.range', ↓reduceIte, reduceCtorEq, Nat.reduceEqDiff, Nat.reduceAdd, Nat.reduceLeDiff, Nat.reduceMul, Nat.reduceLT, Nat.reduceBEq, Int.reduceEq, tI_2, zI_2, underlying2, tI_3, zI_3, underlying3, tI_4, zI_4, underlying4, tI_5, zI_5, underlying5, tI_6, zI_6, underlying6, tI_7, zI_7, fI_7_0, fI_7_1, fI_7_2, fI_7_3, bI_7, tI_8, zI_8, fI_8_0, fI_8_1, fI_8_2, fI_8_3, bI_8, tI_9, zI_9, underlying9, tI_12, zI_12, underlying12, tI_17, zI_17, tI_18, zI_18, fI_18_0, bI_18, tI_64, zI_64, fI_64_0, fI_64_1, bI_64, tI_182, zI_182, eI_182, eB_182, eZ_182, underlying182]
  refine ⟨fun h5 => ?_, fun h5 => ?_⟩
  case refine_2 =>
    simp -implicitDefEqProofs only [evb0, evb1, evb2, evb3, evb4, evb5, evb6, evb7, evb8, evb9, ↓evZ2, ↓evZ3, ↓Int.cast_ofNat_Int, implies_true, ne_eq, or_false, false_or, or_self, gt_iff_lt, isMut, aFn, List.contains, List.elem, aBox, aField, aLoad, sub, aNil, aPick, aExt, aFld, gd, noJunk, plainOp, aBuildSlice, aBuild, aFill, aParts, seqParts, fitAll, List.range', ↓reduceIte, reduceCtorEq, Nat.reduceEqDiff, Nat.reduceAdd, Nat.reduceLeDiff, Nat.reduceMul, Nat.reduceLT, Nat.reduceBEq, Int.reduceEq, tI_2, zI_2, underlying2, tI_3, zI_3, underlying3, tI_4, zI_4, underlying4, tI_5, zI_5, underlying5, tI_6, zI_6, underlying6, tI_7, zI_7, fI_7_0, fI_7_1, fI_7_2, fI_7_3, bI_7, tI_8, zI_8, fI_8_0, fI_8_1, fI_8_2, fI_8_3, bI_8, tI_9, zI_9, underlying9, tI_12, zI_12, underlying12, tI_17, zI_17, tI_18, zI_18, fI_18_0, bI_18, tI_64, zI_64, fI_64_0, fI_64_1, bI_64, tI_182, zI_182, eI_182, eB_182, eZ_182, underlying182]
    simp only [decide_eq_false_iff_not, Int.ofNat_lt] at h5
    have : (l.any fun x => decide (x = s)) = false := by
      rw [List.any_eq_false]
      intro x hx
      obtain ⟨j, hj⟩ := List.getElem?_of_mem hx
      simp [hall j x (by have := (List.getElem?_eq_some_iff.1 hj).1; omega) hj]
    rw [this]
  simp only [decide_eq_true_eq, Int.ofNat_lt] at h5
  obtain ⟨x, hx⟩ : ∃ x, l[i]? = some x := ⟨_, List.getElem?_eq_getElem h5⟩
  simp -implicitDefEqProofs only [ev_at (av := AV.str) eI_182 hx rfl, evb0, evb1, evb2, evb3, evb4, evb5, evb6, evb7, evb8, evb9, ↓evZ2, ↓evZ3, ↓Int.cast_ofNat_Int, implies_true, ne_eq, or_false, false_or, or_self, gt_iff_lt, isMut, aFn, List.contains, List.elem, aBox, aField, aLoad, sub, aNil, aPick, aExt, aFld, gd, noJunk, plainOp, aBuildSlice, aBuild, aFill, aParts, seqParts, fitAll, List.range', ↓reduceIte, reduceCtorEq, Nat.reduceEqDiff, Nat.reduceAdd, Nat.reduceLeDiff, Nat.reduceMul, Nat.reduceLT, Nat.reduceBEq, Int.reduceEq, tI_2, zI_2, underlying2, tI_3, zI_3, underlying3, tI_4, zI_4, underlying4, tI_5, zI_5, underlying5, tI_6, zI_6, underlying6, tI_7, zI_7, fI_7_0, fI_7_1, fI_7_2, fI_7_3, bI_7, tI_8, zI_8, fI_8_0, fI_8_1, fI_8_2, fI_8_3, bI_8, tI_9, zI_9, underlying9, tI_12, zI_12, underlying12, tI_17, zI_17, tI_18, zI_18, fI_18_0, bI_18, tI_64, zI_64, fI_64_0, fI_64_1, bI_64, tI_182, zI_182, eI_182, eB_182, eZ_182, underlying182]
  refine ⟨fun h6 => ?_, fun h6 => ?_⟩
  · simp -implicitDefEqProofs only [evb0, evb1, evb2, evb3, evb4, evb5, evb6, evb7, evb8, evb9, ↓evZ2, ↓evZ3, ↓Int.cast_ofNat_Int, implies_true, ne_eq, or_false, false_or, or_self, gt_iff_lt, isMut, aFn, List.contains, List.elem, aBox, aField, aLoad, sub, aNil, aPick, aExt, aFld, gd, noJunk, plainOp, aBuildSlice, aBuild, aFill, aParts, seqParts, fitAll, List.range', ↓reduceIte, reduceCtorEq, Nat.reduceEqDiff, Nat.reduceAdd, Nat.reduceLeDiff, Nat.reduceMul, Nat.reduceLT, Nat.reduceBEq, Int.reduceEq, tI_2, zI_2, underlying2, tI_3, zI_3, underlying3, tI_4, zI_4, underlying4, tI_5, zI_5, underlying5, tI_6, zI_6, underlying6, tI_7, zI_7, fI_7_0, fI_7_1, fI_7_2, fI_7_3, bI_7, tI_8, zI_8, fI_8_0, fI_8_1, fI_8_2, fI_8_3, bI_8, tI_9, zI_9, underlying9, tI_12, zI_12, underlying12, tI_17, zI_17, tI_18, zI_18, fI_18_0, bI_18, tI_64, zI_64, fI_64_0, fI_64_1, bI_64, tI_182, zI_182, eI_182, eB_182, eZ_182, underlying182]
    have : (l.any fun x => decide (x = s)) = true := by
      rw [List.any_eq_true]
      exact ⟨x, List.mem_of_getElem? hx, h6⟩
    rw [this]
  simp -implicitDefEqProofs only [evb0, evb1, evb2, evb3, evb4, evb5, evb6, evb7, evb8, evb9, ↓evZ2, ↓evZ3, ↓Int.cast_ofNat_Int, implies_true, ne_eq, or_false, false_or, or_self, gt_iff_lt, isMut, aFn, List.contains, List.elem, aBox, aField, aLoad, sub, aNil, aPick, aExt, aFld, gd, noJunk, plainOp, aBuildSlice, aBuild, aFill, aParts, seqParts, fitAll, List.range', ↓reduceIte, reduceCtorEq, Nat.reduceEqDiff, Nat.reduceAdd, Nat.reduceLeDiff, Nat.reduceMul, Nat.reduceLT, Nat.reduceBEq, Int.reduceEq, tI_2, zI_2, underlying2, tI_3, zI_3, underlying3, tI_4, zI_4, underlying4, tI_5, zI_5, underlying5, tI_6, zI_6, underlying6, tI_7, zI_7, fI_7_0, fI_7_1, fI_7_2, fI_7_3, bI_7, tI_8, zI_8, fI_8_0, fI_8_1, fI_8_2, fI_8_3, bI_8, tI_9, zI_9, underlying9, tI_12, zI_12, underlying12, tI_17, zI_17, tI_18, zI_18, fI_18_0, bI_18, tI_64, zI_64, fI_64_0, fI_64_1, bI_64, tI_182, zI_182, eI_182, eB_182, eZ_182, underlying182]
  refine ⟨i + 1, by omega, ⟨by omega, fun j u hj hu => ?_⟩, LessL.mk ?_⟩
  · rcases Nat.lt_or_ge j i with h8 | h8
    · exact hall j u h8 hu
    · obtain rfl : j = i := by omega
      rw [hx] at hu; cases hu
      exact h6
  · have := wrap64 (n := (i : Int) + 1) (by omega) (by omega)
    simp -implicitDefEqProofs only [this, evb0, evb1, evb2, evb3, evb4, evb5, evb6, evb7, evb8, evb9, ↓evZ2, ↓evZ3, ↓Int.cast_ofNat_Int, implies_true, ne_eq, or_false, false_or, or_self, gt_iff_lt, isMut, aFn, List.contains, List.elem, aBox, aField, aLoad, sub, aNil, aPick, aExt, aFld, gd, noJunk, plainOp, aBuildSlice, aBuild, aFill, aParts, seqParts, fitAll, List.range', ↓reduceIte, reduceCtorEq, Nat.reduceEqDiff, Nat.reduceAdd, Nat.reduceLeDiff, Nat.reduceMul, Nat.reduceLT, Nat.reduceBEq, Int.reduceEq, tI_2, zI_2, underlying2, tI_3, zI_3, underlying3, tI_4, zI_4, underlying4, tI_5, zI_5, underlying5, tI_6, zI_6, underlying6, tI_7, zI_7, fI_7_0, fI_7_1, fI_7_2, fI_7_3, bI_7, tI_8, zI_8, fI_8_0, fI_8_1, fI_8_2, fI_8_3, bI_8, tI_9, zI_9, underlying9, tI_12, zI_12, underlying12, tI_17, zI_17, tI_18, zI_18, fI_18_0, bI_18, tI_64, zI_64, fI_64_0, fI_64_1, bI_64, tI_182, zI_182, eI_182, eB_182, eZ_182, underlying182]
theorem c_IndexS (l : List ByteArray) (s : ByteArray) (st : Store) : ACalls prog 194 [.slice (l.map .str), .str s] st (fun r st' => (∃ k : Int, r = .int .i64 k ∧ decide (0 ≤ k) = l.any fun x => decide (s = x)) ∧ st' = st) := by
  refine acalls_fit [] func194 ntmps194 rfl rfl (by kernel_rfl) (by decide +kernel) (by show 2 ≤ _; decide +kernel) ?_
  simp only [fitsL, AV.fits, and_true, List.length_map]
  intro ⟨⟨hl, _⟩, _⟩
  simp -implicitDefEqProofs only [List.length_map, evb0, evb1, evb2, evb3, evb4, evb5, evb6, evb7, evb8, evb9, ↓evZ2, ↓evZ3, ↓Int.cast_ofNat_Int, implies_true, ne_eq, or_false, false_or, or_self, gt_iff_lt, isMut, aFn, List.contains, List.elem, aBox, aField, aLoad, sub, aNil, aPick, aExt, aFld, gd, noJunk, plainOp, aBuildSlice, aBuild, aFill, aParts, seqParts, fitAll, List.range', ↓reduceIte, reduceCtorEq, Nat.reduceEqDiff, Nat.reduceAdd, Nat.reduceLeDiff, Nat.reduceMul, Nat.reduceLT, Nat.reduceBEq, Int.reduceEq, tI_2, zI_2, underlying2, tI_3, zI_3, underlying3, tI_4, zI_4, underlying4, tI_5, zI_5, underlying5, tI_6, zI_6, underlying6, tI_7, zI_7, fI_7_0, fI_7_1, fI_7_2, fI_7_3, bI_7, tI_8, zI_8, fI_8_0, fI_8_1, fI_8_2, fI_8_3, bI_8, tI_9, zI_9, underlying9, tI_18, zI_18, fI_18_0, bI_18, tI_19, zI_19, fI_19_0, bI_19, tI_64, zI_64, fI_64_0, fI_64_1, bI_64, tI_182, zI_182, eI_182, eB_182, eZ_182, underlying182]
  refine arun_loopL (α := Nat) [] (fun i => i ≤ l.length ∧ ∀ (j : Nat) x, j < i → l[j]? = some x → decide (s = x) = false)
    (fun i => [(0, .slice (l.map .str)), (1, .str s), (7, .int .i64 l.length), (8, .int .i64 i)]) (fun _ => st) (fun i => l.length - i) (by decide +kernel)
    ⟨0, ⟨by omega, by intro j x h; omega⟩, LessL.mk (by simp -implicitDefEqProofs only [evb0, evb1, evb2, evb3, evb4, evb5, evb6, evb7, evb8, evb9, ↓evZ2, ↓evZ3, ↓Int.cast_ofNat_Int, implies_true, ne_eq, or_false, false_or, or_self, gt_iff_lt, isMut, aFn, List.contains, List.elem, aBox, aField, aLoad, sub, aNil, aPick, aExt, aFld, gd, noJunk, plainOp, aBuildSlice, aBuild, aFill, aParts, seqParts, fitAll, List.range', ↓reduceIte, reduceCtorEq, Nat.reduceEqDiff, Nat.reduceAdd, Nat.reduceLeDiff, Nat.reduceMul, Nat.reduceLT, Nat.reduceBEq, Int.reduceEq, tI_2, zI_2, underlying2, tI_3, zI_3, underlying3, tI_4, zI_4, underlying4, tI_5, zI_5, underlying5, tI_6, zI_6, underlying6, tI_7, zI_7, fI_7_0, fI_7_1, fI_7_2, fI_7_3, bI_7, tI_8, zI_8, fI_8_0, fI_8_1, fI_8_2, fI_8_3, bI_8, tI_9, zI_9, underlying9, tI_18, zI_18, fI_18_0, bI_18, tI_19, zI_19, fI_19_0, bI_19, tI_64, zI_64, fI_64_0, fI_64_1, bI_64, tI_182, zI_182, eI_182, eB_182, eZ_182, underlying182])⟩ ?_
  intro i ⟨hi, hall⟩
  simp -implicitDefEqProofs only [List.length_map, evb0, evb1, evb2, evb3, evb4, evb5, evb6, evb7, evb8, evb9, ↓evZ2, ↓evZ3, ↓Int.cast_ofNat_Int, implies_true, ne_eq, or_false, false_or, or_self, gt_iff_lt, isMut, aFn, List.contains, List.elem, aBox, aField, aLoad, sub, aNil, aPick, aExt, aFld, gd, noJunk, plainOp, aBuildSlice, aBuild, aFill, aParts, seqParts, fitAll, List.range', ↓reduceIte, reduceCtorEq, Nat.reduceEqDiff, Nat.reduceAdd, Nat.reduceLeDiff, Nat.reduceMul, Nat.reduceLT, Nat.reduceBEq, Int.reduceEq, tI_2, zI_2, underlying2, tI_3, zI_3, underlying3, tI_4, zI_4, underlying4, tI_5, zI_5, underlying5, tI_6, zI_6, underlying6, tI_7, zI_7, fI_7_0, fI_7_1, fI_7_2, fI_7_3, bI_7, tI_8, zI_8, fI_8_0, fI_8_1, fI_8_2, fI_8_3, bI_8, tI_9, zI_9, underlying9, tI_18, zI_18, fI_18_0, bI_18, tI_19, zI_19, fI_19_0, bI_19, tI_64, zI_64, fI_64_0, fI_64_1, bI_64, tI_182, zI_182, eI_182, eB_182, eZ_182, underlying182]
  refine ⟨fun h5 => ?_, fun h5 => ?_⟩
  case refine_2 =>
    simp -implicitDefEqProofs only [evb0, evb1, evb2, evb3, evb4, evb5, evb6, evb7, evb8, evb9, ↓evZ2, ↓evZ3, ↓Int.cast_ofNat_Int, implies_true, ne_eq, or_false, false_or, or_self, gt_iff_lt, isMut, aFn, List.contains, List.elem, aBox, aField, aLoad, sub, aNil, aPick, aExt, aFld, gd, noJunk, plainOp, aBuildSlice, aBuild, aFill, aParts, seqParts, fitAll, List.range', ↓reduceIte, reduceCtorEq, Nat.reduceEqDiff, Nat.reduceAdd, Nat.reduceLeDiff, Nat.reduceMul, Nat.reduceLT, Nat.reduceBEq, Int.reduceEq, tI_2, zI_2, underlying2, tI_3, zI_3, underlying3, tI_4, zI_4, underlying4, tI_5, zI_5, underlying5, tI_6, zI_6, underlying6, tI_7, zI_7, fI_7_0, fI_7_1, fI_7_2, fI_7_3, bI_7, tI_8, zI_8, fI_8_0, fI_8_1, fI_8_2, fI_8_3, bI_8, tI_9, zI_9, underlying9, tI_18, zI_18, fI_18_0, bI_18, tI_19, zI_19, fI_19_0, bI_19, tI_64, zI_64, fI_64_0, fI_64_1, bI_64, tI_182, zI_182, eI_182, eB_182, eZ_182, underlying182]
    simp only [decide_eq_false_iff_not, Int.ofNat_lt] at h5
    have : (l.any fun x => decide (s = x)) = false := by
      rw [List.any_eq_false]
      intro x hx
      obtain ⟨j, hj⟩ := List.getElem?_of_mem hx
      simp [hall j x (by have := (List.getElem?_eq_some_iff.1 hj).1; omega) hj]
    rw [this]
    exact ⟨_, rfl, rfl⟩
  simp only [decide_eq_true_eq, Int.ofNat_lt] at h5
  obtain ⟨x, hx⟩ : ∃ x, l[i]? = some x := ⟨_, List.getElem?_eq_getElem h5⟩
  simp -implicitDefEqProofs only [ev_at (av := AV.str) eI_182 hx rfl, evb0, evb1, evb2, evb3, evb4, evb5, evb6, evb7, evb8, evb9, ↓evZ2, ↓evZ3, ↓Int.cast_ofNat_Int, implies_true, ne_eq, or_false, false_or, or_self, gt_iff_lt, isMut, aFn, List.contains, List.elem, aBox, aField, aLoad, sub, aNil, aPick, aExt, aFld, gd, noJunk, plainOp, aBuildSlice, aBuild, aFill, aParts, seqParts, fitAll, List.range', ↓reduceIte, reduceCtorEq, Nat.reduceEqDiff, Nat.reduceAdd, Nat.reduceLeDiff, Nat.reduceMul, Nat.reduceLT, Nat.reduceBEq, Int.reduceEq, tI_2, zI_2, underlying2, tI_3, zI_3, underlying3, tI_4, zI_4, underlying4, tI_5, zI_5, underlying5, tI_6, zI_6, underlying6, tI_7, zI_7, fI_7_0, fI_7_1, fI_7_2, fI_7_3, bI_7, tI_8, zI_8, fI_8_0, fI_8_1, fI_8_2, fI_8_3, bI_8, tI_9, zI_9, underlying9, tI_18, zI_18, fI_18_0, bI_18, tI_19, zI_19, fI_19_0, bI_19, tI_64, zI_64, fI_64_0, fI_64_1, bI_64, tI_182, zI_182, eI_182, eB_182, eZ_182, underlying182]
  refine ⟨fun h6 => ?_, fun h6 => ?_⟩
  · simp -implicitDefEqProofs only [evb0, evb1, evb2, evb3, evb4, evb5, evb6, evb7, evb8, evb9, ↓evZ2, ↓evZ3, ↓Int.cast_ofNat_Int, implies_true, ne_eq, or_false, false_or, or_self, gt_iff_lt, isMut, aFn, List.contains, List.elem, aBox, aField, aLoad, sub, aNil, aPick, aExt, aFld, gd, noJunk, plainOp, aBuildSlice, aBuild, aFill, aParts, seqParts, fitAll, List.range', ↓reduceIte, reduceCtorEq, Nat.reduceEqDiff, Nat.reduceAdd, Nat.reduceLeDiff, Nat.reduceMul, Nat.reduceLT, Nat.reduceBEq, Int.reduceEq, tI_2, zI_2, underlying2, tI_3, zI_3, underlying3, tI_4, zI_4, underlying4, tI_5, zI_5, underlying5, tI_6, zI_6, underlying6, tI_7, zI_7, fI_7_0, fI_7_1, fI_7_2, fI_7_3, bI_7, tI_8, zI_8, fI_8_0, fI_8_1, fI_8_2, fI_8_3, bI_8, tI_9, zI_9, underlying9, tI_18, zI_18, fI_18_0, bI_18, tI_19, zI_19, fI_19_0, bI_19, tI_64, zI_64, fI_64_0, fI_64_1, bI_64, tI_182, zI_182, eI_182, eB_182, eZ_182, underlying182]
    have : (l.any fun x => decide (s = x)) = true := by
      rw [List.any_eq_true]
      exact ⟨x, List.mem_of_getElem? hx, h6⟩
    rw [this]
    exact ⟨_, rfl, by simp⟩
  simp -implicitDefEqProofs only [evb0, evb1, evb2, evb3, evb4, evb5, evb6, evb7, evb8, evb9, ↓evZ2, ↓evZ3, ↓Int.cast_ofNat_Int, implies_true, ne_eq, or_false, false_or, or_self, gt_iff_lt, isMut, aFn, List.contains, List.elem, aBox, aField, aLoad, sub, aNil, aPick, aExt, aFld, gd, noJunk, plainOp, aBuildSlice, aBuild, aFill, aParts, seqParts, fitAll, List.range', ↓reduceIte, reduceCtorEq, Nat.reduceEqDiff, Nat.reduceAdd, Nat.reduceLeDiff, Nat.reduceMul, Nat.reduceLT, Nat.reduceBEq, Int.reduceEq, tI_2, zI_2, underlying2, tI_3, zI_3, underlying3, tI_4, zI_4, underlying4, tI_5, zI_5, underlying5, tI_6, zI_6, underlying6, tI_7, zI_7, fI_7_0, fI_7_1, fI_7_2, fI_7_3, bI_7, tI_8, zI_8, fI_8_0, fI_8_1, fI_8_2, fI_8_3, bI_8, tI_9, zI_9, underlying9, tI_18, zI_18, fI_18_0, bI_18, tI_19, zI_19, fI_19_0, bI_19, tI_64, zI_64, fI_64_0, fI_64_1, bI_64, tI_182, zI_182, eI_182, eB_182, eZ_182, underlying182]
  refine ⟨i + 1, by omega, ⟨by omega, fun j u hj hu => ?_⟩, LessL.mk ?_⟩
  · rcases Nat.lt_or_ge j i with h8 | h8
    · exact hall j u h8 hu
    · obtain rfl : j = i := by omega
      rw [hx] at hu; cases hu
      exact h6
  · have := wrap64 (n := (i : Int) + 1) (by omega) (by omega)
    simp -implicitDefEqProofs only [this, evb0, evb1, evb2, evb3, evb4, evb5, evb6, evb7, evb8, evb9, ↓evZ2, ↓evZ3, ↓Int.cast_ofNat_Int, implies_true, ne_eq, or_false, false_or, or_self, gt_iff_lt, isMut, aFn, List.contains, List.elem, aBox, aField, aLoad, sub, aNil, aPick, aExt, aFld, gd, noJunk, plainOp, aBuildSlice, aBuild, aFill, aParts, seqParts, fitAll, List.range', ↓reduceIte, reduceCtorEq, Nat.reduceEqDiff, Nat.reduceAdd, Nat.reduceLeDiff, Nat.reduceMul, Nat.reduceLT, Nat.reduceBEq, Int.reduceEq, tI_2, zI_2, underlying2, tI_3, zI_3, underlying3, tI_4, zI_4, underlying4, tI_5, zI_5, underlying5, tI_6, zI_6, underlying6, tI_7, zI_7, fI_7_0, fI_7_1, fI_7_2, fI_7_3, bI_7, tI_8, zI_8, fI_8_0, fI_8_1, fI_8_2, fI_8_3, bI_8, tI_9, zI_9, underlying9, tI_18, zI_18, fI_18_0, bI_18, tI_19, zI_19, fI_19_0, bI_19, tI_64, zI_64, fI_64_0, fI_64_1, bI_64, tI_182, zI_182, eI_182, eB_182, eZ_182, underlying182]

theorem c_ContainsS (l : List ByteArray) (s : ByteArray) (st : Store) : ACalls prog 174 [.slice (l.map .str), .str s] st (fun r st' => r = .bool (l.any fun x => decide (s = x)) ∧ st' = st) := by
  refine acalls_fit [] func174 ntmps174 rfl rfl (by kernel_rfl) (by decide +kernel) (by show 2 ≤ _; decide +kernel) ?_
  intro _
  simp -implicitDefEqProofs only [evb0, evb1, evb2, evb3, evb4, evb5, evb6, evb7, evb8, evb9, ↓evZ2, ↓evZ3, ↓Int.cast_ofNat_Int, implies_true, ne_eq, or_false, false_or, or_self, gt_iff_lt, isMut, aFn, List.contains, List.elem, aBox, aField, aLoad, sub, aNil, aPick, aExt, aFld, gd, noJunk, plainOp, aBuildSlice, aBuild, aFill, aParts, seqParts, fitAll, List.range', ↓reduceIte, reduceCtorEq, Nat.reduceEqDiff, Nat.reduceAdd, Nat.reduceLeDiff, Nat.reduceMul, Nat.reduceLT, Nat.reduceBEq, Int.reduceEq, tI_3, zI_3, underlying3, tI_4, zI_4, underlying4, tI_5, zI_5, underlying5, tI_6, zI_6, underlying6, tI_7, zI_7, fI_7_0, fI_7_1, fI_7_2, fI_7_3, bI_7, tI_9, zI_9, underlying9, tI_64, zI_64, fI_64_0, fI_64_1, bI_64, tI_118, zI_118, fI_118_0, fI_118_1, bI_118, tI_182, zI_182, eI_182, eB_182, eZ_182, underlying182, tI_194, zI_194, underlying194]
  refine (c_IndexS l s st).mono ?_
  rintro _ _ ⟨⟨k, rfl, hk⟩, rfl⟩
  simp -implicitDefEqProofs only [evb0, evb1, evb2, evb3, evb4, evb5, evb6, evb7, evb8, evb9, ↓evZ2, ↓evZ3, ↓Int.cast_ofNat_Int, implies_true, ne_eq, or_false, false_or, or_self, gt_iff_lt, isMut, aFn, List.contains, List.elem, aBox, aField, aLoad, sub, aNil, aPick, aExt, aFld, gd, noJunk, plainOp, aBuildSlice, aBuild, aFill, aParts, seqParts, fitAll, List.range', ↓reduceIte, reduceCtorEq, Nat.reduceEqDiff, Nat.reduceAdd, Nat.reduceLeDiff, Nat.reduceMul, Nat.reduceLT, Nat.reduceBEq, Int.reduceEq, tI_3, zI_3, underlying3, tI_4, zI_4, underlying4, tI_5, zI_5, underlying5, tI_6, zI_6, underlying6, tI_7, zI_7, fI_7_0, fI_7_1, fI_7_2, fI_7_3, bI_7, tI_9, zI_9, underlying9, tI_64, zI_64, fI_64_0, fI_64_1, bI_64, tI_118, zI_118, fI_118_0, fI_118_1, bI_118, tI_182, zI_182, eI_182, eB_182, eZ_182, underlying182, tI_194, zI_194, underlying194]
  rw [← hk]

theorem c_ContainsS' (l : List ByteArray) (s : ByteArray) (st : Store) : ACalls prog 174 [.fslice (l.map .str), .str s] st (fun r st' => r = .bool (l.any fun x => decide (s = x)) ∧ st' = st) :=
  ACalls.softArgs (by simp only [softL, AV.soft]; exact c_ContainsS l s st)
theorem c_l1Has' (l : List ByteArray) (s : ByteArray) (st : Store) : ACalls prog 206 [.fslice (l.map .str), .str s] st (fun r st' => r = .bool (l.any fun x => decide (x = s)) ∧ st' = st) :=
  ACalls.softArgs (by simp only [softL, AV.soft]; exact c_l1Has l s st)

def nameValid (s : ByteArray) : Bool := letters s || signs.any fun x => decide (s = x)
theorem any_swap (s : ByteArray) : (signs.any fun x => decide (x = s)) = signs.any fun x => decide (s = x) := by
  congr 1
  funext x
  exact decide_eq_decide.2 ⟨Eq.symm, Eq.symm⟩

theorem c_impl_NameValid (s : ByteArray) (st : Store) : ACalls prog 130 [.str s] st (fun r st' => r = .bool (nameValid s) ∧ st' = st) := by
  refine acalls_fit [] func130 ntmps130 rfl rfl (by kernel_rfl) (by decide +kernel) (by show 1 ≤ _; decide +kernel) ?_
  intro _
  repeat' (first
    | (simp -implicitDefEqProofs only [*, evb0, evb1, evb2, evb3, evb4, evb5, evb6, evb7, evb8, evb9, ↓evZ2, ↓evZ3, ↓Int.cast_ofNat_Int, implies_true, ne_eq, or_false, false_or, or_self, gt_iff_lt, isMut, aFn, List.contains, List.elem, aBox, aField, aLoad, sub, aNil, aPick, aExt, aFld, gd, noJunk, plainOp, aBuildSlice, aBuild, aFill, aParts, seqParts, fitAll, List.range', ↓reduceIte, reduceCtorEq, Nat.reduceEqDiff, Nat.reduceAdd, Nat.reduceLeDiff, Nat.reduceMul, Nat.reduceLT, Nat.reduceBEq, Int.reduceEq, tI_2, zI_2, underlying2, tI_3, zI_3, underlying3, tI_4, zI_4, underlying4, tI_6, zI_6, underlying6, tI_7, zI_7, fI_7_0, fI_7_1, fI_7_2, fI_7_3, bI_7, tI_8, zI_8, fI_8_0, fI_8_1, fI_8_2, fI_8_3, bI_8, tI_9, zI_9, underlying9, tI_10, zI_10, underlying10, tI_182, zI_182, eI_182, eB_182, eZ_182, underlying182])
    | (refine opsG_split (fun h => ?_) (fun h => ?_))
    | (refine (c_isLetters s st).to ?_) | (refine (c_symbols st).to ?_) | (refine (c_ContainsS' signs s st).to ?_)
    | (refine cond_split (fun h => ?_) (fun h => ?_)))
  all_goals simp only [nameValid, *, Bool.not_false, Bool.true_or, Bool.false_or]

theorem c_spec_NameValid (s : ByteArray) (st : Store) : ACalls prog 193 [.str s] st (fun r st' => r = .bool (nameValid s) ∧ st' = st) := by
  refine acalls_fit [] func193 ntmps193 rfl rfl (by kernel_rfl) (by decide +kernel) (by show 1 ≤ _; decide +kernel) ?_
  intro _
  repeat' (first
    | (simp -implicitDefEqProofs only [*, evb0, evb1, evb2, evb3, evb4, evb5, evb6, evb7, evb8, evb9, ↓evZ2, ↓evZ3, ↓Int.cast_ofNat_Int, implies_true, ne_eq, or_false, false_or, or_self, gt_iff_lt, isMut, aFn, List.contains, List.elem, aBox, aField, aLoad, sub, aNil, aPick, aExt, aFld, gd, noJunk, plainOp, aBuildSlice, aBuild, aFill, aParts, seqParts, fitAll, List.range', ↓reduceIte, reduceCtorEq, Nat.reduceEqDiff, Nat.reduceAdd, Nat.reduceLeDiff, Nat.reduceMul, Nat.reduceLT, Nat.reduceBEq, Int.reduceEq, tI_2, zI_2, underlying2, tI_3, zI_3, underlying3, tI_4, zI_4, underlying4, tI_6, zI_6, underlying6, tI_7, zI_7, fI_7_0, fI_7_1, fI_7_2, fI_7_3, bI_7, tI_8, zI_8, fI_8_0, fI_8_1, fI_8_2, fI_8_3, bI_8, tI_9, zI_9, underlying9, tI_10, zI_10, underlying10, tI_31, zI_31, fI_31_0, bI_31, tI_182, zI_182, eI_182, eB_182, eZ_182, underlying182])
    | (refine opsG_split (fun h => ?_) (fun h => ?_))
    | (refine (c_l1Word s st).to ?_) | (refine (c_l1Signs st).to ?_) | (refine (c_l1Has' signs s st).to ?_)
    | (refine cond_split (fun h => ?_) (fun h => ?_)))
  all_goals simp only [nameValid, any_swap, *, Bool.not_false, Bool.true_or, Bool.false_or]
end Go.AW

/- Valid terms as data. -/
namespace Go.AW
def ownOk (k n : Int) (s : ByteArray) (len : Int) : Bool :=
  cond (decide (k = 1)) (decide ((0 : Int) ≤ n) && decide (n ≤ 25) && decide (s = ⟨#[]⟩) && decide (len = 0))
    (cond (decide (k = 2)) (decide ((-999 : Int) ≤ n) && decide (n ≤ 999) && decide (s = ⟨#[]⟩) && decide (len = 0))
      (cond (decide (k = 3)) (decide (n = 0) && nameValid s && decide (len ≤ 4)) false))
mutual
/-- Well formed, down to a depth. -/
def Tm.shape : Tm → Int → Bool
  | .mk k n s ts, d => decide (1 ≤ d) && ownOk k n s ts.length && tmsShape ts (d - 1)
def tmsShape : List Tm → Int → Bool
  | [], _ => true
  | t :: ts, d => t.shape d && tmsShape ts d
end
theorem tmsShape_all : ∀ (ts : List Tm) (d : Int), tmsShape ts d = ts.all fun t => t.shape d
  | [], _ => rfl
  | t :: ts, d => by simp only [tmsShape, List.all_cons, tmsShape_all ts d]
theorem Tm.shape_mk (k n : Int) (s : ByteArray) (ts : List Tm) (d : Int) : (Tm.mk k n s ts).shape d = (decide (1 ≤ d) && ownOk k n s ts.length && ts.all fun t => t.shape (d - 1)) := by simp only [Tm.shape, tmsShape_all]
mutual
/-- The number of nodes. -/
def Tm.nodes : Tm → Nat
  | .mk _ _ _ ts => 1 + tmsNodes ts
def tmsNodes : List Tm → Nat
  | [] => 0
  | t :: ts => t.nodes + tmsNodes ts
end
theorem tmsNodes_sum : ∀ (ts : List Tm), tmsNodes ts = sumL Tm.nodes ts
  | [] => rfl
  | t :: ts => by simp only [tmsNodes, sumL, tmsNodes_sum ts]
theorem Tm.nodes_mk (k n : Int) (s : ByteArray) (ts : List Tm) : (Tm.mk k n s ts).nodes = 1 + sumL Tm.nodes ts := by simp only [Tm.nodes, tmsNodes_sum]
def Tm.valid (t : Tm) : Bool := t.shape 30 && decide (t.nodes ≤ 120)
end Go.AW

/- Variables of terms, as data; what grows beside a block of its own. -/
namespace Go.AW
set_option linter.unusedSimpArgs false

mutual
def Tm.vars : Tm → List Int → List Int
  | .mk k n _ ts, l => tmsVars ts (if k = 1 ∧ n ∉ l then l ++ [n] else l)
def tmsVars : List Tm → List Int → List Int
  | [], l => l
  | t :: ts, l => tmsVars ts (t.vars l)
end
mutual
theorem Tm.vars_len : ∀ (t : Tm) (l : List Int), (t.vars l).length ≤ l.length + t.nodes
  | .mk k n s ts, l => by
    have h := tmsVars_len ts (if k = 1 ∧ n ∉ l then l ++ [n] else l)
    have h2 : (if k = 1 ∧ n ∉ l then l ++ [n] else l).length ≤ l.length + 1 := by split <;> simp
    rw [Tm.vars, Tm.nodes_mk]
    omega
theorem tmsVars_len : ∀ (ts : List Tm) (l : List Int), (tmsVars ts l).length ≤ l.length + sumL Tm.nodes ts
  | [], l => by simp [tmsVars, sumL]
  | t :: ts, l => by
    have h1 := Tm.vars_len t l
    have h2 := tmsVars_len ts (t.vars l)
    simp only [tmsVars, sumL]
    omega
end

def idxI (v : Int) : List Int → Int → Int
  | [], _ => -1
  | x :: xs, i => if v = x then i else idxI v xs (i + 1)
theorem idxI_mem (v : Int) : ∀ (l : List Int) (i : Int), 0 ≤ i → (0 ≤ idxI v l i ↔ v ∈ l)
  | [], i, h => by simp [idxI]
  | x :: xs, i, h => by
    simp only [idxI, List.mem_cons]
    split
    · rename_i e; simp [e, h]
    · rename_i e; rw [idxI_mem v xs (i + 1) (by omega)]; simp [e]

/-! ### A block beside a list that grows -/
theorem accS_upd {st : Store} {b x : Nat} {l : List AV} {o : AO} (h : l ≠ [] → x ≠ b) : (accS st b l).upd x o = accS (st.upd x o) b l := by
  cases l with
  | nil => rfl
  | cons y l => exact Store.upd_comm _ _ _ (Ne.symm (h (by simp)))
theorem accS_drop {st : Store} {b x : Nat} {l : List AV} {o : AO} (hx : st x = none) (h : l ≠ [] → (st.upd x o) b = none) : Drops (accS (st.upd x o) b l) (accS st b l) ∧ (l ≠ [] → st b = none) := by
  cases l with
  | nil => exact ⟨(Drops.refl _).upd hx, fun h => absurd rfl h⟩
  | cons y l =>
    have hb := h (by simp)
    have hne : b ≠ x := by rintro rfl; rw [Store.upd_same] at hb; cases hb
    rw [Store.upd_ne _ _ hne] at hb
    refine ⟨?_, fun _ => hb⟩
    simp only [accS]
    rw [Store.upd_comm _ _ _ (Ne.symm hne)]
    exact (Drops.refl _).upd (by rw [Store.upd_ne _ _ (Ne.symm hne)]; exact hx)

/-! ### Reading what grows -/
theorem acc_at {P : Program} {t : TypeId} {ag : Bool} {w b i : Nat} {l : List AV} {x : AV} (hI : eI P t = some (ag, w)) (h : l[i]? = some x) : aIndexAddr P t (accV w b l) (.int .i64 (i : Int)) = some (.ptr b (i * w)) := by
  have hi := (List.getElem?_eq_some_iff.1 h).1
  rw [accV_cons (by rintro rfl; simp at hi)]
  exact held_at hI hi
theorem acc_load1 {P : Program} {t : TypeId} {st : Store} {b i : Nat} {l : List Int} {x : Int} (hT : tI P t = some (false, 1)) (h : l[i]? = some x) : aLoad P (accS st b (l.map iv)) t (.ptr b (i * 1)) = some (iv x) := by
  have hi := (List.getElem?_eq_some_iff.1 h).1
  have hne : l.map iv ≠ [] := by rintro e; rw [List.map_eq_nil_iff] at e; subst e; simp at hi
  have hfl : (l.map iv).flatMap AV.cells = l.map iv := by
    clear h hi hne
    induction l with
    | nil => rfl
    | cons y l ih => simp only [List.map_cons, List.flatMap_cons, ih]; rfl
  rw [accS_cons hne, hfl]
  simp only [aLoad, hT, Store.upd_same, sub, Nat.mul_one, List.getElem?_map, h]
  rfl

theorem acc_blk {st : Store} {b i : Nat} {l : List Int} {x : Int} (h : l[i]? = some x) : accS st b (l.map iv) b = some (.cells (l.map iv)) ∧ (l.map iv)[i]? = some (iv x) := by
  have hi := (List.getElem?_eq_some_iff.1 h).1
  have hne : l.map iv ≠ [] := by rintro e; rw [List.map_eq_nil_iff] at e; subst e; simp at hi
  have hfl : (l.map iv).flatMap AV.cells = l.map iv := by
    clear h hi hne
    induction l with
    | nil => rfl
    | cons y l ih => simp only [List.map_cons, List.flatMap_cons, ih]; rfl
  exact ⟨by rw [accS_cons hne, hfl, Store.upd_same], by rw [List.getElem?_map, h]; rfl⟩

mutual
def Tm.wf : Tm → Bool
  | .mk k _ _ ts => (!decide (k = 1) || ts.isEmpty) && tmsWf ts
def tmsWf : List Tm → Bool
  | [] => true
  | t :: ts => t.wf && tmsWf ts
end
theorem tmsWf_all : ∀ (ts : List Tm), tmsWf ts = ts.all Tm.wf
  | [] => rfl
  | t :: ts => by simp only [tmsWf, List.all_cons, tmsWf_all ts]
theorem Tm.wf_mk {k n : Int} {s : ByteArray} {ts : List Tm} (h : (Tm.mk k n s ts).wf = true) : (k = 1 → ts = []) ∧ ∀ x ∈ ts, x.wf = true := by
  simp only [Tm.wf, tmsWf_all, Bool.and_eq_true, Bool.or_eq_true, Bool.not_eq_true', decide_eq_false_iff_not, List.isEmpty_iff, List.all_eq_true] at h
  exact ⟨fun hk => h.1.resolve_left (fun hn => hn hk), h.2⟩
mutual
theorem Tm.wf_of : ∀ (t : Tm) (d : Int), t.shape d = true → t.wf = true
  | .mk k n s ts, d, h => by
    rw [Tm.shape_mk] at h
    simp only [Bool.and_eq_true, List.all_eq_true] at h
    obtain ⟨⟨_, h1⟩, h2⟩ := h
    have h3 := tmsWf_of ts (d - 1) h2
    simp only [Tm.wf, h3, Bool.and_true, Bool.or_eq_true, Bool.not_eq_true', decide_eq_false_iff_not, List.isEmpty_iff]
    by_cases hk : k = 1
    · refine .inr ?_
      subst hk
      simp [ownOk] at h1
      exact h1.2
    · exact .inl hk
theorem tmsWf_of : ∀ (ts : List Tm) (d : Int), (∀ x ∈ ts, x.shape d = true) → tmsWf ts = true
  | [], _, _ => rfl
  | t :: ts, d, h => by simp only [tmsWf, Tm.wf_of t d (h t (by simp)), tmsWf_of ts d (fun x hx => h x (by simp [hx])), Bool.and_self]
end
theorem Tm.valid_wf {t : Tm} (h : t.valid = true) : t.wf = true := by simp only [Tm.valid, Bool.and_eq_true] at h; exact Tm.wf_of t 30 h.1
theorem Tm.valid_nodes {t : Tm} (h : t.valid = true) : t.nodes ≤ 120 := by simp only [Tm.valid, Bool.and_eq_true, decide_eq_true_eq] at h; exact h.2
theorem sum_nodes {l : List Tm} (h : ∀ x ∈ l, x.valid = true) : sumL Tm.nodes l ≤ 120 * l.length := by
  induction l with
  | nil => simp [sumL]
  | cons t l ih =>
    have h1 := Tm.valid_nodes (h t (by simp))
    have h2 := ih fun x hx => h x (by simp [hx])
    simp only [sumL, List.length_cons]
    omega
end Go.AW
