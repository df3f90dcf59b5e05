import Derived.Test.YtccofeljgfmplaaUgFing
import Derived.Test.YtccofeljgfmplaaUgFini

/- Names and goals: what the reference's and the program's functions return. -/
namespace Go.AW
open Go.Proofs.Try
set_option linter.unusedSimpArgs false
set_option maxRecDepth 100000

theorem tf_Gs_88 : (type_of% tI_3) ∧ (type_of% zI_3) ∧ (type_of% Go.Proofs.Try.underlying3) ∧ (type_of% tI_4) ∧ (type_of% zI_4) ∧ (type_of% Go.Proofs.Try.underlying4) ∧ (type_of% tI_15) ∧ (type_of% zI_15) := ⟨tI_3, zI_3, Go.Proofs.Try.underlying3, tI_4, zI_4, Go.Proofs.Try.underlying4, tI_15, zI_15⟩
theorem c_within (n lo hi : Int) (st : Store) : ACalls prog 88 [.int .i64 n, .int .i64 lo, .int .i64 hi] st (fun r st' => r = .bool (decide (lo ≤ n) && decide (n ≤ hi)) ∧ st' = st) := by
  refine acalls_fit [] func88 ntmps88 rfl rfl (by kernel_rfl) (by decide +kernel) (by show 3 ≤ _; decide +kernel) ?_
  intro _
  repeat' (first
    | (simp -implicitDefEqProofs only [*, evb0, evb1, evb2, evb3, evb4, evb5, evb6, evb7, evb8, evb9, ↓evZ2, ↓evZ3, ↓Int.cast_ofNat_Int, implies_true, ne_eq, or_false, false_or, or_self, gt_iff_lt, isMut, aFn, List.contains, List.elem, aBox, aField, aLoad, sub, aNil, aPick, aExt, aFld, gd, noJunk, plainOp, aBuildSlice, aBuild, aFill, aParts, seqParts, fitAll, List.range', ↓reduceIte, reduceCtorEq, Nat.reduceEqDiff, Nat.reduceAdd, Nat.reduceLeDiff, Nat.reduceMul, Nat.reduceLT, Nat.reduceBEq, Int.reduceEq, tf_Gs_88])
    | (refine opsG_split (fun h => ?_) (fun h => ?_))
    
    | (refine cond_split (fun h => ?_) (fun h => ?_)))
  all_goals simp_all

end Go.AW


/- Names: what the reference's and the program's functions return. -/
namespace Go.AW
open Go.Proofs.Try
set_option linter.unusedSimpArgs false
set_option maxRecDepth 100000

theorem tf_Gs2_200 : (type_of% tI_2) ∧ (type_of% zI_2) ∧ (type_of% Go.Proofs.Try.underlying2) ∧ (type_of% tI_3) ∧ (type_of% zI_3) ∧ (type_of% Go.Proofs.Try.underlying3) ∧ (type_of% tI_4) ∧ (type_of% zI_4) ∧ (type_of% Go.Proofs.Try.underlying4) ∧ (type_of% tI_5) ∧ (type_of% zI_5) ∧ (type_of% Go.Proofs.Try.underlying5) ∧ (type_of% tI_6) ∧ (type_of% zI_6) ∧ (type_of% Go.Proofs.Try.underlying6) ∧ (type_of% tI_8) ∧ (type_of% zI_8) ∧ (type_of% fI_8_0) ∧ (type_of% fI_8_1) ∧ (type_of% fI_8_2) ∧ (type_of% fI_8_3) ∧ (type_of% bI_8) ∧ (type_of% tI_9) ∧ (type_of% zI_9) ∧ (type_of% Go.Proofs.Try.underlying9) ∧ (type_of% tI_19) ∧ (type_of% zI_19) ∧ (type_of% fI_19_0) ∧ (type_of% bI_19) ∧ (type_of% tI_21) ∧ (type_of% zI_21) ∧ (type_of% Go.Proofs.Try.underlying21) ∧ (type_of% tI_22) ∧ (type_of% zI_22) ∧ (type_of% eI_22) ∧ (type_of% eB_22) ∧ (type_of% eZ_22) ∧ (type_of% Go.Proofs.Try.underlying22) ∧ (type_of% tI_24) ∧ (type_of% zI_24) ∧ (type_of% fI_24_0) ∧ (type_of% bI_24) ∧ (type_of% tI_27) ∧ (type_of% zI_27) ∧ (type_of% eI_27) ∧ (type_of% eB_27) ∧ (type_of% eZ_27) ∧ (type_of% Go.Proofs.Try.underlying27) ∧ (type_of% tI_64) ∧ (type_of% zI_64) ∧ (type_of% fI_64_0) ∧ (type_of% fI_64_1) ∧ (type_of% bI_64) := ⟨tI_2, zI_2, Go.Proofs.Try.underlying2, tI_3, zI_3, Go.Proofs.Try.underlying3, tI_4, zI_4, Go.Proofs.Try.underlying4, tI_5, zI_5, Go.Proofs.Try.underlying5, tI_6, zI_6, Go.Proofs.Try.underlying6, tI_8, zI_8, fI_8_0, fI_8_1, fI_8_2, fI_8_3, bI_8, tI_9, zI_9, Go.Proofs.Try.underlying9, tI_19, zI_19, fI_19_0, bI_19, tI_21, zI_21, Go.Proofs.Try.underlying21, tI_22, zI_22, eI_22, eB_22, eZ_22, Go.Proofs.Try.underlying22, tI_24, zI_24, fI_24_0, bI_24, tI_27, zI_27, eI_27, eB_27, eZ_27, Go.Proofs.Try.underlying27, tI_64, zI_64, fI_64_0, fI_64_1, bI_64⟩
theorem c_l1Word (s : ByteArray) (st : Store) : ACalls prog 200 [.str s] st (fun r st' => r = .bool (letters s) ∧ st' = st) := by
  refine acalls_fit [] func200 ntmps200 rfl rfl (by kernel_rfl) (by decide +kernel) (by show 1 ≤ _; decide +kernel) ?_
  simp only [fitsL, AV.fits, and_true]
  intro hs
  simp -implicitDefEqProofs only [evb0, evb1, evb2, evb3, evb4, evb5, evb6, evb7, evb8, evb9, ↓evZ2, ↓evZ3, ↓Int.cast_ofNat_Int, implies_true, ne_eq, or_false, false_or, or_self, gt_iff_lt, isMut, aFn, List.contains, List.elem, aBox, aField, aLoad, sub, aNil, aPick, aExt, aFld, gd, noJunk, plainOp, aBuildSlice, aBuild, aFill, aParts, seqParts, fitAll, List.range', ↓reduceIte, reduceCtorEq, Nat.reduceEqDiff, Nat.reduceAdd, Nat.reduceLeDiff, Nat.reduceMul, Nat.reduceLT, Nat.reduceBEq, Int.reduceEq, tf_Gs2_200]
  refine arun_loopL (α := Nat) [] (fun i => i ≤ s.size ∧ ∀ (j : Nat) c, j < i → (sb s)[j]? = some c → letter c = true)
    (fun i => [(0, .str s), (3, .int .i64 i)]) (fun _ => st) (fun i => s.size - i) (by decide +kernel)
    ⟨0, ⟨by omega, by intro j x h; omega⟩, LessL.mk (by simp -implicitDefEqProofs only [evb0, evb1, evb2, evb3, evb4, evb5, evb6, evb7, evb8, evb9, ↓evZ2, ↓evZ3, ↓Int.cast_ofNat_Int, implies_true, ne_eq, or_false, false_or, or_self, gt_iff_lt, isMut, aFn, List.contains, List.elem, aBox, aField, aLoad, sub, aNil, aPick, aExt, aFld, gd, noJunk, plainOp, aBuildSlice, aBuild, aFill, aParts, seqParts, fitAll, List.range', ↓reduceIte, reduceCtorEq, Nat.reduceEqDiff, Nat.reduceAdd, Nat.reduceLeDiff, Nat.reduceMul, Nat.reduceLT, Nat.reduceBEq, Int.reduceEq, tf_Gs2_200])⟩ ?_
  intro i ⟨hi, hall⟩
  simp -implicitDefEqProofs only [evb0, evb1, evb2, evb3, evb4, evb5, evb6, evb7, evb8, evb9, ↓evZ2, ↓evZ3, ↓Int.cast_ofNat_Int, implies_true, ne_eq, or_false, false_or, or_self, gt_iff_lt, isMut, aFn, List.contains, List.elem, aBox, aField, aLoad, sub, aNil, aPick, aExt, aFld, gd, noJunk, plainOp, aBuildSlice, aBuild, aFill, aParts, seqParts, fitAll, List.range', ↓reduceIte, reduceCtorEq, Nat.reduceEqDiff, Nat.reduceAdd, Nat.reduceLeDiff, Nat.reduceMul, Nat.reduceLT, Nat.reduceBEq, Int.reduceEq, tf_Gs2_200]
  refine ⟨fun h5 => ?_, fun h5 => ?_⟩
  case refine_2 =>
    simp only [decide_eq_false_iff_not, Int.ofNat_lt] at h5
    have ha : (sb s).all letter = true := all_of fun j c hc => hall j c (by have := (List.getElem?_eq_some_iff.1 hc).1; rw [sb_len] at this; omega) hc
    repeat' (first
      | (simp -implicitDefEqProofs only [*, evb0, evb1, evb2, evb3, evb4, evb5, evb6, evb7, evb8, evb9, ↓evZ2, ↓evZ3, ↓Int.cast_ofNat_Int, implies_true, ne_eq, or_false, false_or, or_self, gt_iff_lt, isMut, aFn, List.contains, List.elem, aBox, aField, aLoad, sub, aNil, aPick, aExt, aFld, gd, noJunk, plainOp, aBuildSlice, aBuild, aFill, aParts, seqParts, fitAll, List.range', ↓reduceIte, reduceCtorEq, Nat.reduceEqDiff, Nat.reduceAdd, Nat.reduceLeDiff, Nat.reduceMul, Nat.reduceLT, Nat.reduceBEq, Int.reduceEq, tf_Gs2_200])
      | (refine opsG_split (fun h => ?_) (fun h => ?_))
      
      | (refine cond_split (fun h => ?_) (fun h => ?_)))
    all_goals simp only [letters, ha, Bool.true_and, AV.bool.injEq]
    all_goals simp only [*, Bool.not_true, Bool.true_and, Bool.false_and]
  simp only [decide_eq_true_eq, Int.ofNat_lt] at h5
  obtain ⟨c, hc⟩ : ∃ c, (sb s)[i]? = some c := ⟨_, List.getElem?_eq_getElem (by rw [sb_len]; exact h5)⟩
  have hx := idx_byte (P := prog) (t := 9) underlying9 hc
  simp -implicitDefEqProofs only [hx, evb0, evb1, evb2, evb3, evb4, evb5, evb6, evb7, evb8, evb9, ↓evZ2, ↓evZ3, ↓Int.cast_ofNat_Int, implies_true, ne_eq, or_false, false_or, or_self, gt_iff_lt, isMut, aFn, List.contains, List.elem, aBox, aField, aLoad, sub, aNil, aPick, aExt, aFld, gd, noJunk, plainOp, aBuildSlice, aBuild, aFill, aParts, seqParts, fitAll, List.range', ↓reduceIte, reduceCtorEq, Nat.reduceEqDiff, Nat.reduceAdd, Nat.reduceLeDiff, Nat.reduceMul, Nat.reduceLT, Nat.reduceBEq, Int.reduceEq, tf_Gs2_200]
  refine opsG_split (fun h6 => ?_) (fun h6 => ?_)
  case refine_2 =>
    simp -implicitDefEqProofs only [h6, evb0, evb1, evb2, evb3, evb4, evb5, evb6, evb7, evb8, evb9, ↓evZ2, ↓evZ3, ↓Int.cast_ofNat_Int, implies_true, ne_eq, or_false, false_or, or_self, gt_iff_lt, isMut, aFn, List.contains, List.elem, aBox, aField, aLoad, sub, aNil, aPick, aExt, aFld, gd, noJunk, plainOp, aBuildSlice, aBuild, aFill, aParts, seqParts, fitAll, List.range', ↓reduceIte, reduceCtorEq, Nat.reduceEqDiff, Nat.reduceAdd, Nat.reduceLeDiff, Nat.reduceMul, Nat.reduceLT, Nat.reduceBEq, Int.reduceEq, tf_Gs2_200]
    simp only [Bool.not_false, decide_eq_true_eq] at h6
    simp only [letters, all_at hc (show letter c = false by simp [letter]; omega), Bool.false_and]
  simp -implicitDefEqProofs only [h6, hx, evb0, evb1, evb2, evb3, evb4, evb5, evb6, evb7, evb8, evb9, ↓evZ2, ↓evZ3, ↓Int.cast_ofNat_Int, implies_true, ne_eq, or_false, false_or, or_self, gt_iff_lt, isMut, aFn, List.contains, List.elem, aBox, aField, aLoad, sub, aNil, aPick, aExt, aFld, gd, noJunk, plainOp, aBuildSlice, aBuild, aFill, aParts, seqParts, fitAll, List.range', ↓reduceIte, reduceCtorEq, Nat.reduceEqDiff, Nat.reduceAdd, Nat.reduceLeDiff, Nat.reduceMul, Nat.reduceLT, Nat.reduceBEq, Int.reduceEq, tf_Gs2_200]
  refine ⟨fun h7 => ?_, fun h7 => ?_⟩
  · simp -implicitDefEqProofs only [evb0, evb1, evb2, evb3, evb4, evb5, evb6, evb7, evb8, evb9, ↓evZ2, ↓evZ3, ↓Int.cast_ofNat_Int, implies_true, ne_eq, or_false, false_or, or_self, gt_iff_lt, isMut, aFn, List.contains, List.elem, aBox, aField, aLoad, sub, aNil, aPick, aExt, aFld, gd, noJunk, plainOp, aBuildSlice, aBuild, aFill, aParts, seqParts, fitAll, List.range', ↓reduceIte, reduceCtorEq, Nat.reduceEqDiff, Nat.reduceAdd, Nat.reduceLeDiff, Nat.reduceMul, Nat.reduceLT, Nat.reduceBEq, Int.reduceEq, tf_Gs2_200]
    simp only [decide_eq_true_eq] at h7
    simp only [letters, all_at hc (show letter c = false by simp [letter]; omega), Bool.false_and]
  simp only [decide_eq_false_iff_not] at h6 h7
  simp -implicitDefEqProofs only [evb0, evb1, evb2, evb3, evb4, evb5, evb6, evb7, evb8, evb9, ↓evZ2, ↓evZ3, ↓Int.cast_ofNat_Int, implies_true, ne_eq, or_false, false_or, or_self, gt_iff_lt, isMut, aFn, List.contains, List.elem, aBox, aField, aLoad, sub, aNil, aPick, aExt, aFld, gd, noJunk, plainOp, aBuildSlice, aBuild, aFill, aParts, seqParts, fitAll, List.range', ↓reduceIte, reduceCtorEq, Nat.reduceEqDiff, Nat.reduceAdd, Nat.reduceLeDiff, Nat.reduceMul, Nat.reduceLT, Nat.reduceBEq, Int.reduceEq, tf_Gs2_200]
  refine ⟨i + 1, by omega, ⟨by omega, fun j u hj hu => ?_⟩, LessL.mk ?_⟩
  · rcases Nat.lt_or_ge j i with h8 | h8
    · exact hall j u h8 hu
    · obtain rfl : j = i := by omega
      rw [hc] at hu; cases hu
      simp [letter]; omega
  · have := wrap64 (n := (i : Int) + 1) (by omega) (by omega)
    simp -implicitDefEqProofs only [this, evb0, evb1, evb2, evb3, evb4, evb5, evb6, evb7, evb8, evb9, ↓evZ2, ↓evZ3, ↓Int.cast_ofNat_Int, implies_true, ne_eq, or_false, false_or, or_self, gt_iff_lt, isMut, aFn, List.contains, List.elem, aBox, aField, aLoad, sub, aNil, aPick, aExt, aFld, gd, noJunk, plainOp, aBuildSlice, aBuild, aFill, aParts, seqParts, fitAll, List.range', ↓reduceIte, reduceCtorEq, Nat.reduceEqDiff, Nat.reduceAdd, Nat.reduceLeDiff, Nat.reduceMul, Nat.reduceLT, Nat.reduceBEq, Int.reduceEq, tf_Gs2_200]
theorem tf_Gs2_173 : (type_of% tI_2) ∧ (type_of% zI_2) ∧ (type_of% Go.Proofs.Try.underlying2) ∧ (type_of% tI_3) ∧ (type_of% zI_3) ∧ (type_of% Go.Proofs.Try.underlying3) ∧ (type_of% tI_4) ∧ (type_of% zI_4) ∧ (type_of% Go.Proofs.Try.underlying4) ∧ (type_of% tI_5) ∧ (type_of% zI_5) ∧ (type_of% Go.Proofs.Try.underlying5) ∧ (type_of% tI_6) ∧ (type_of% zI_6) ∧ (type_of% Go.Proofs.Try.underlying6) ∧ (type_of% tI_7) ∧ (type_of% zI_7) ∧ (type_of% fI_7_0) ∧ (type_of% fI_7_1) ∧ (type_of% fI_7_2) ∧ (type_of% fI_7_3) ∧ (type_of% bI_7) ∧ (type_of% tI_8) ∧ (type_of% zI_8) ∧ (type_of% fI_8_0) ∧ (type_of% fI_8_1) ∧ (type_of% fI_8_2) ∧ (type_of% fI_8_3) ∧ (type_of% bI_8) ∧ (type_of% tI_9) ∧ (type_of% zI_9) ∧ (type_of% Go.Proofs.Try.underlying9) ∧ (type_of% tI_19) ∧ (type_of% zI_19) ∧ (type_of% fI_19_0) ∧ (type_of% bI_19) ∧ (type_of% tI_21) ∧ (type_of% zI_21) ∧ (type_of% Go.Proofs.Try.underlying21) ∧ (type_of% tI_22) ∧ (type_of% zI_22) ∧ (type_of% eI_22) ∧ (type_of% eB_22) ∧ (type_of% eZ_22) ∧ (type_of% Go.Proofs.Try.underlying22) ∧ (type_of% tI_23) ∧ (type_of% zI_23) ∧ (type_of% fI_23_0) ∧ (type_of% bI_23) ∧ (type_of% tI_41) ∧ (type_of% zI_41) ∧ (type_of% fI_41_0) ∧ (type_of% fI_41_1) ∧ (type_of% fI_41_2) ∧ (type_of% fI_41_3) ∧ (type_of% bI_41) ∧ (type_of% tI_64) ∧ (type_of% zI_64) ∧ (type_of% fI_64_0) ∧ (type_of% fI_64_1) ∧ (type_of% bI_64) := ⟨tI_2, zI_2, Go.Proofs.Try.underlying2, tI_3, zI_3, Go.Proofs.Try.underlying3, tI_4, zI_4, Go.Proofs.Try.underlying4, tI_5, zI_5, Go.Proofs.Try.underlying5, tI_6, zI_6, Go.Proofs.Try.underlying6, tI_7, zI_7, fI_7_0, fI_7_1, fI_7_2, fI_7_3, bI_7, tI_8, zI_8, fI_8_0, fI_8_1, fI_8_2, fI_8_3, bI_8, tI_9, zI_9, Go.Proofs.Try.underlying9, tI_19, zI_19, fI_19_0, bI_19, tI_21, zI_21, Go.Proofs.Try.underlying21, tI_22, zI_22, eI_22, eB_22, eZ_22, Go.Proofs.Try.underlying22, tI_23, zI_23, fI_23_0, bI_23, tI_41, zI_41, fI_41_0, fI_41_1, fI_41_2, fI_41_3, bI_41, tI_64, zI_64, fI_64_0, fI_64_1, bI_64⟩
theorem c_isLetters (s : ByteArray) (st : Store) : ACalls prog 173 [.str s] st (fun r st' => r = .bool (letters s) ∧ st' = st) := by
  refine acalls_fit [] func173 ntmps173 rfl rfl (by kernel_rfl) (by decide +kernel) (by show 1 ≤ _; decide +kernel) ?_
  simp only [fitsL, AV.fits, and_true]
  intro hs
  simp -implicitDefEqProofs only [evb0, evb1, evb2, evb3, evb4, evb5, evb6, evb7, evb8, evb9, ↓evZ2, ↓evZ3, ↓Int.cast_ofNat_Int, implies_true, ne_eq, or_false, false_or, or_self, gt_iff_lt, isMut, aFn, List.contains, List.elem, aBox, aField, aLoad, sub, aNil, aPick, aExt, aFld, gd, noJunk, plainOp, aBuildSlice, aBuild, aFill, aParts, seqParts, fitAll, List.range', ↓reduceIte, reduceCtorEq, Nat.reduceEqDiff, Nat.reduceAdd, Nat.reduceLeDiff, Nat.reduceMul, Nat.reduceLT, Nat.reduceBEq, Int.reduceEq, tf_Gs2_173]
  refine arun_loopL (α := Nat) [] (fun i => i ≤ s.size ∧ ∀ (j : Nat) c, j < i → (sb s)[j]? = some c → letter c = true)
    (fun i => [(0, .str s), (5, .int .i64 s.size), (6, .int .i64 i)]) (fun _ => st) (fun i => s.size - i) (by decide +kernel)
    ⟨0, ⟨by omega, by intro j x h; omega⟩, LessL.mk (by simp -implicitDefEqProofs only [evb0, evb1, evb2, evb3, evb4, evb5, evb6, evb7, evb8, evb9, ↓evZ2, ↓evZ3, ↓Int.cast_ofNat_Int, implies_true, ne_eq, or_false, false_or, or_self, gt_iff_lt, isMut, aFn, List.contains, List.elem, aBox, aField, aLoad, sub, aNil, aPick, aExt, aFld, gd, noJunk, plainOp, aBuildSlice, aBuild, aFill, aParts, seqParts, fitAll, List.range', ↓reduceIte, reduceCtorEq, Nat.reduceEqDiff, Nat.reduceAdd, Nat.reduceLeDiff, Nat.reduceMul, Nat.reduceLT, Nat.reduceBEq, Int.reduceEq, tf_Gs2_173])⟩ ?_
  intro i ⟨hi, hall⟩
  simp -implicitDefEqProofs only [evb0, evb1, evb2, evb3, evb4, evb5, evb6, evb7, evb8, evb9, ↓evZ2, ↓evZ3, ↓Int.cast_ofNat_Int, implies_true, ne_eq, or_false, false_or, or_self, gt_iff_lt, isMut, aFn, List.contains, List.elem, aBox, aField, aLoad, sub, aNil, aPick, aExt, aFld, gd, noJunk, plainOp, aBuildSlice, aBuild, aFill, aParts, seqParts, fitAll, List.range', ↓reduceIte, reduceCtorEq, Nat.reduceEqDiff, Nat.reduceAdd, Nat.reduceLeDiff, Nat.reduceMul, Nat.reduceLT, Nat.reduceBEq, Int.reduceEq, tf_Gs2_173]
  refine ⟨fun h5 => ?_, fun h5 => ?_⟩
  case refine_2 =>
    simp only [decide_eq_false_iff_not, Int.ofNat_lt] at h5
    have ha : (sb s).all letter = true := all_of fun j c hc => hall j c (by have := (List.getElem?_eq_some_iff.1 hc).1; rw [sb_len] at this; omega) hc
    simp -implicitDefEqProofs only [evb0, evb1, evb2, evb3, evb4, evb5, evb6, evb7, evb8, evb9, ↓evZ2, ↓evZ3, ↓Int.cast_ofNat_Int, implies_true, ne_eq, or_false, false_or, or_self, gt_iff_lt, isMut, aFn, List.contains, List.elem, aBox, aField, aLoad, sub, aNil, aPick, aExt, aFld, gd, noJunk, plainOp, aBuildSlice, aBuild, aFill, aParts, seqParts, fitAll, List.range', ↓reduceIte, reduceCtorEq, Nat.reduceEqDiff, Nat.reduceAdd, Nat.reduceLeDiff, Nat.reduceMul, Nat.reduceLT, Nat.reduceBEq, Int.reduceEq, tf_Gs2_173]
    refine (c_within _ _ _ st).to ?_
    simp -implicitDefEqProofs only [evb0, evb1, evb2, evb3, evb4, evb5, evb6, evb7, evb8, evb9, ↓evZ2, ↓evZ3, ↓Int.cast_ofNat_Int, implies_true, ne_eq, or_false, false_or, or_self, gt_iff_lt, isMut, aFn, List.contains, List.elem, aBox, aField, aLoad, sub, aNil, aPick, aExt, aFld, gd, noJunk, plainOp, aBuildSlice, aBuild, aFill, aParts, seqParts, fitAll, List.range', ↓reduceIte, reduceCtorEq, Nat.reduceEqDiff, Nat.reduceAdd, Nat.reduceLeDiff, Nat.reduceMul, Nat.reduceLT, Nat.reduceBEq, Int.reduceEq, tf_Gs2_173]
    simp only [letters, ha, Bool.true_and]
  simp only [decide_eq_true_eq, Int.ofNat_lt] at h5
  obtain ⟨c, hc⟩ : ∃ c, (sb s)[i]? = some c := ⟨_, List.getElem?_eq_getElem (by rw [sb_len]; exact h5)⟩
  have hx := idx_byte (P := prog) (t := 9) underlying9 hc
  simp -implicitDefEqProofs only [hx, evb0, evb1, evb2, evb3, evb4, evb5, evb6, evb7, evb8, evb9, ↓evZ2, ↓evZ3, ↓Int.cast_ofNat_Int, implies_true, ne_eq, or_false, false_or, or_self, gt_iff_lt, isMut, aFn, List.contains, List.elem, aBox, aField, aLoad, sub, aNil, aPick, aExt, aFld, gd, noJunk, plainOp, aBuildSlice, aBuild, aFill, aParts, seqParts, fitAll, List.range', ↓reduceIte, reduceCtorEq, Nat.reduceEqDiff, Nat.reduceAdd, Nat.reduceLeDiff, Nat.reduceMul, Nat.reduceLT, Nat.reduceBEq, Int.reduceEq, tf_Gs2_173]
  refine opsG_split (fun h6 => ?_) (fun h6 => ?_)
  case refine_2 =>
    simp -implicitDefEqProofs only [h6, evb0, evb1, evb2, evb3, evb4, evb5, evb6, evb7, evb8, evb9, ↓evZ2, ↓evZ3, ↓Int.cast_ofNat_Int, implies_true, ne_eq, or_false, false_or, or_self, gt_iff_lt, isMut, aFn, List.contains, List.elem, aBox, aField, aLoad, sub, aNil, aPick, aExt, aFld, gd, noJunk, plainOp, aBuildSlice, aBuild, aFill, aParts, seqParts, fitAll, List.range', ↓reduceIte, reduceCtorEq, Nat.reduceEqDiff, Nat.reduceAdd, Nat.reduceLeDiff, Nat.reduceMul, Nat.reduceLT, Nat.reduceBEq, Int.reduceEq, tf_Gs2_173]
    simp only [Bool.not_false, decide_eq_true_eq] at h6
    simp only [letters, all_at hc (show letter c = false by simp [letter]; omega), Bool.false_and]
  simp -implicitDefEqProofs only [h6, hx, evb0, evb1, evb2, evb3, evb4, evb5, evb6, evb7, evb8, evb9, ↓evZ2, ↓evZ3, ↓Int.cast_ofNat_Int, implies_true, ne_eq, or_false, false_or, or_self, gt_iff_lt, isMut, aFn, List.contains, List.elem, aBox, aField, aLoad, sub, aNil, aPick, aExt, aFld, gd, noJunk, plainOp, aBuildSlice, aBuild, aFill, aParts, seqParts, fitAll, List.range', ↓reduceIte, reduceCtorEq, Nat.reduceEqDiff, Nat.reduceAdd, Nat.reduceLeDiff, Nat.reduceMul, Nat.reduceLT, Nat.reduceBEq, Int.reduceEq, tf_Gs2_173]
  refine ⟨fun h7 => ?_, fun h7 => ?_⟩
  · simp -implicitDefEqProofs only [evb0, evb1, evb2, evb3, evb4, evb5, evb6, evb7, evb8, evb9, ↓evZ2, ↓evZ3, ↓Int.cast_ofNat_Int, implies_true, ne_eq, or_false, false_or, or_self, gt_iff_lt, isMut, aFn, List.contains, List.elem, aBox, aField, aLoad, sub, aNil, aPick, aExt, aFld, gd, noJunk, plainOp, aBuildSlice, aBuild, aFill, aParts, seqParts, fitAll, List.range', ↓reduceIte, reduceCtorEq, Nat.reduceEqDiff, Nat.reduceAdd, Nat.reduceLeDiff, Nat.reduceMul, Nat.reduceLT, Nat.reduceBEq, Int.reduceEq, tf_Gs2_173]
    simp only [decide_eq_true_eq] at h7
    simp only [letters, all_at hc (show letter c = false by simp [letter]; omega), Bool.false_and]
  simp only [decide_eq_false_iff_not] at h6 h7
  simp -implicitDefEqProofs only [evb0, evb1, evb2, evb3, evb4, evb5, evb6, evb7, evb8, evb9, ↓evZ2, ↓evZ3, ↓Int.cast_ofNat_Int, implies_true, ne_eq, or_false, false_or, or_self, gt_iff_lt, isMut, aFn, List.contains, List.elem, aBox, aField, aLoad, sub, aNil, aPick, aExt, aFld, gd, noJunk, plainOp, aBuildSlice, aBuild, aFill, aParts, seqParts, fitAll, List.range', ↓reduceIte, reduceCtorEq, Nat.reduceEqDiff, Nat.reduceAdd, Nat.reduceLeDiff, Nat.reduceMul, Nat.reduceLT, Nat.reduceBEq, Int.reduceEq, tf_Gs2_173]
  refine ⟨i + 1, by omega, ⟨by omega, fun j u hj hu => ?_⟩, LessL.mk ?_⟩
  · rcases Nat.lt_or_ge j i with h8 | h8
    · exact hall j u h8 hu
    · obtain rfl : j = i := by omega
      rw [hc] at hu; cases hu
      simp [letter]; omega
  · have := wrap64 (n := (i : Int) + 1) (by omega) (by omega)
    simp -implicitDefEqProofs only [this, evb0, evb1, evb2, evb3, evb4, evb5, evb6, evb7, evb8, evb9, ↓evZ2, ↓evZ3, ↓Int.cast_ofNat_Int, implies_true, ne_eq, or_false, false_or, or_self, gt_iff_lt, isMut, aFn, List.contains, List.elem, aBox, aField, aLoad, sub, aNil, aPick, aExt, aFld, gd, noJunk, plainOp, aBuildSlice, aBuild, aFill, aParts, seqParts, fitAll, List.range', ↓reduceIte, reduceCtorEq, Nat.reduceEqDiff, Nat.reduceAdd, Nat.reduceLeDiff, Nat.reduceMul, Nat.reduceLT, Nat.reduceBEq, Int.reduceEq, tf_Gs2_173]

end Go.AW


/- Names of signs: what the reference's and the program's functions return. -/
namespace Go.AW
open Go.Proofs.Try
set_option linter.unusedSimpArgs false
set_option maxRecDepth 100000

def signs : List ByteArray := [⟨#[43]⟩, ⟨#[45]⟩, ⟨#[42]⟩, ⟨#[47, 47]⟩, ⟨#[61]⟩, ⟨#[92, 61]⟩, ⟨#[61, 61]⟩, ⟨#[60]⟩, ⟨#[62]⟩, ⟨#[61, 60]⟩, ⟨#[62, 61]⟩, ⟨#[61, 58, 61]⟩, ⟨#[46]⟩, ⟨#[91, 93]⟩, ⟨#[33]⟩]

theorem tf_Gs3_175 : (type_of% tI_2) ∧ (type_of% zI_2) ∧ (type_of% Go.Proofs.Try.underlying2) ∧ (type_of% tI_3) ∧ (type_of% zI_3) ∧ (type_of% Go.Proofs.Try.underlying3) ∧ (type_of% tI_4) ∧ (type_of% zI_4) ∧ (type_of% Go.Proofs.Try.underlying4) ∧ (type_of% tI_5) ∧ (type_of% zI_5) ∧ (type_of% Go.Proofs.Try.underlying5) ∧ (type_of% tI_6) ∧ (type_of% zI_6) ∧ (type_of% Go.Proofs.Try.underlying6) ∧ (type_of% tI_7) ∧ (type_of% zI_7) ∧ (type_of% fI_7_0) ∧ (type_of% fI_7_1) ∧ (type_of% fI_7_2) ∧ (type_of% fI_7_3) ∧ (type_of% bI_7) ∧ (type_of% tI_8) ∧ (type_of% zI_8) ∧ (type_of% fI_8_0) ∧ (type_of% fI_8_1) ∧ (type_of% fI_8_2) ∧ (type_of% fI_8_3) ∧ (type_of% bI_8) ∧ (type_of% tI_9) ∧ (type_of% zI_9) ∧ (type_of% Go.Proofs.Try.underlying9) ∧ (type_of% tI_10) ∧ (type_of% zI_10) ∧ (type_of% Go.Proofs.Try.underlying10) ∧ (type_of% tI_11) ∧ (type_of% zI_11) ∧ (type_of% Go.Proofs.Try.underlying11) ∧ (type_of% tI_12) ∧ (type_of% zI_12) ∧ (type_of% Go.Proofs.Try.underlying12) ∧ (type_of% tI_13) ∧ (type_of% zI_13) ∧ (type_of% fI_13_0) ∧ (type_of% fI_13_1) ∧ (type_of% bI_13) ∧ (type_of% tI_14) ∧ (type_of% zI_14) ∧ (type_of% fI_14_0) ∧ (type_of% fI_14_1) ∧ (type_of% bI_14) ∧ (type_of% tI_15) ∧ (type_of% zI_15) ∧ (type_of% tI_58) ∧ (type_of% zI_58) ∧ (type_of% fI_58_0) ∧ (type_of% fI_58_1) ∧ (type_of% bI_58) ∧ (type_of% tI_60) ∧ (type_of% zI_60) ∧ (type_of% eI_60) ∧ (type_of% eB_60) ∧ (type_of% eZ_60) ∧ (type_of% Go.Proofs.Try.underlying60) ∧ (type_of% tI_62) ∧ (type_of% zI_62) ∧ (type_of% eI_62) ∧ (type_of% eB_62) ∧ (type_of% eZ_62) ∧ (type_of% Go.Proofs.Try.underlying62) ∧ (type_of% tI_91) ∧ (type_of% zI_91) ∧ (type_of% fI_91_0) ∧ (type_of% fI_91_1) ∧ (type_of% fI_91_2) ∧ (type_of% fI_91_3) ∧ (type_of% bI_91) ∧ (type_of% tI_92) ∧ (type_of% zI_92) ∧ (type_of% fI_92_0) ∧ (type_of% fI_92_1) ∧ (type_of% fI_92_2) ∧ (type_of% fI_92_3) ∧ (type_of% bI_92) ∧ (type_of% tI_93) ∧ (type_of% zI_93) ∧ (type_of% eI_93) ∧ (type_of% eB_93) ∧ (type_of% eZ_93) ∧ (type_of% Go.Proofs.Try.underlying93) ∧ (type_of% tI_182) ∧ (type_of% zI_182) ∧ (type_of% eI_182) ∧ (type_of% eB_182) ∧ (type_of% eZ_182) ∧ (type_of% Go.Proofs.Try.underlying182) := ⟨tI_2, zI_2, Go.Proofs.Try.underlying2, tI_3, zI_3, Go.Proofs.Try.underlying3, tI_4, zI_4, Go.Proofs.Try.underlying4, tI_5, zI_5, Go.Proofs.Try.underlying5, tI_6, zI_6, Go.Proofs.Try.underlying6, tI_7, zI_7, fI_7_0, fI_7_1, fI_7_2, fI_7_3, bI_7, tI_8, zI_8, fI_8_0, fI_8_1, fI_8_2, fI_8_3, bI_8, tI_9, zI_9, Go.Proofs.Try.underlying9, tI_10, zI_10, Go.Proofs.Try.underlying10, tI_11, zI_11, Go.Proofs.Try.underlying11, tI_12, zI_12, Go.Proofs.Try.underlying12, tI_13, zI_13, fI_13_0, fI_13_1, bI_13, tI_14, zI_14, fI_14_0, fI_14_1, bI_14, tI_15, zI_15, tI_58, zI_58, fI_58_0, fI_58_1, bI_58, tI_60, zI_60, eI_60, eB_60, eZ_60, Go.Proofs.Try.underlying60, tI_62, zI_62, eI_62, eB_62, eZ_62, Go.Proofs.Try.underlying62, tI_91, zI_91, fI_91_0, fI_91_1, fI_91_2, fI_91_3, bI_91, tI_92, zI_92, fI_92_0, fI_92_1, fI_92_2, fI_92_3, bI_92, tI_93, zI_93, eI_93, eB_93, eZ_93, Go.Proofs.Try.underlying93, tI_182, zI_182, eI_182, eB_182, eZ_182, Go.Proofs.Try.underlying182⟩
theorem c_symbols (st : Store) : ACalls prog 175 [] st (fun r st' => r = .fslice (signs.map .str) ∧ st' = st) := by
  refine acalls_fit [] func175 ntmps175 rfl rfl (by kernel_rfl) (by decide +kernel) (by show 0 ≤ _; decide +kernel) ?_
  intro _
  simp -implicitDefEqProofs only [signs, evb0, evb1, evb2, evb3, evb4, evb5, evb6, evb7, evb8, evb9, ↓evZ2, ↓evZ3, ↓Int.cast_ofNat_Int, implies_true, ne_eq, or_false, false_or, or_self, gt_iff_lt, isMut, aFn, List.contains, List.elem, aBox, aField, aLoad, sub, aNil, aPick, aExt, aFld, gd, noJunk, plainOp, aBuildSlice, aBuild, aFill, aParts, seqParts, fitAll, List.range', ↓reduceIte, reduceCtorEq, Nat.reduceEqDiff, Nat.reduceAdd, Nat.reduceLeDiff, Nat.reduceMul, Nat.reduceLT, Nat.reduceBEq, Int.reduceEq, tf_Gs3_175]

theorem tf_Gs3_207 : (type_of% tI_2) ∧ (type_of% zI_2) ∧ (type_of% Go.Proofs.Try.underlying2) ∧ (type_of% tI_3) ∧ (type_of% zI_3) ∧ (type_of% Go.Proofs.Try.underlying3) ∧ (type_of% tI_4) ∧ (type_of% zI_4) ∧ (type_of% Go.Proofs.Try.underlying4) ∧ (type_of% tI_5) ∧ (type_of% zI_5) ∧ (type_of% Go.Proofs.Try.underlying5) ∧ (type_of% tI_6) ∧ (type_of% zI_6) ∧ (type_of% Go.Proofs.Try.underlying6) ∧ (type_of% tI_7) ∧ (type_of% zI_7) ∧ (type_of% fI_7_0) ∧ (type_of% fI_7_1) ∧ (type_of% fI_7_2) ∧ (type_of% fI_7_3) ∧ (type_of% bI_7) ∧ (type_of% tI_8) ∧ (type_of% zI_8) ∧ (type_of% fI_8_0) ∧ (type_of% fI_8_1) ∧ (type_of% fI_8_2) ∧ (type_of% fI_8_3) ∧ (type_of% bI_8) ∧ (type_of% tI_9) ∧ (type_of% zI_9) ∧ (type_of% Go.Proofs.Try.underlying9) ∧ (type_of% tI_10) ∧ (type_of% zI_10) ∧ (type_of% Go.Proofs.Try.underlying10) ∧ (type_of% tI_11) ∧ (type_of% zI_11) ∧ (type_of% Go.Proofs.Try.underlying11) ∧ (type_of% tI_12) ∧ (type_of% zI_12) ∧ (type_of% Go.Proofs.Try.underlying12) ∧ (type_of% tI_13) ∧ (type_of% zI_13) ∧ (type_of% fI_13_0) ∧ (type_of% fI_13_1) ∧ (type_of% bI_13) ∧ (type_of% tI_14) ∧ (type_of% zI_14) ∧ (type_of% fI_14_0) ∧ (type_of% fI_14_1) ∧ (type_of% bI_14) ∧ (type_of% tI_15) ∧ (type_of% zI_15) ∧ (type_of% tI_58) ∧ (type_of% zI_58) ∧ (type_of% fI_58_0) ∧ (type_of% fI_58_1) ∧ (type_of% bI_58) ∧ (type_of% tI_60) ∧ (type_of% zI_60) ∧ (type_of% eI_60) ∧ (type_of% eB_60) ∧ (type_of% eZ_60) ∧ (type_of% Go.Proofs.Try.underlying60) ∧ (type_of% tI_62) ∧ (type_of% zI_62) ∧ (type_of% eI_62) ∧ (type_of% eB_62) ∧ (type_of% eZ_62) ∧ (type_of% Go.Proofs.Try.underlying62) ∧ (type_of% tI_91) ∧ (type_of% zI_91) ∧ (type_of% fI_91_0) ∧ (type_of% fI_91_1) ∧ (type_of% fI_91_2) ∧ (type_of% fI_91_3) ∧ (type_of% bI_91) ∧ (type_of% tI_92) ∧ (type_of% zI_92) ∧ (type_of% fI_92_0) ∧ (type_of% fI_92_1) ∧ (type_of% fI_92_2) ∧ (type_of% fI_92_3) ∧ (type_of% bI_92) ∧ (type_of% tI_93) ∧ (type_of% zI_93) ∧ (type_of% eI_93) ∧ (type_of% eB_93) ∧ (type_of% eZ_93) ∧ (type_of% Go.Proofs.Try.underlying93) ∧ (type_of% tI_182) ∧ (type_of% zI_182) ∧ (type_of% eI_182) ∧ (type_of% eB_182) ∧ (type_of% eZ_182) ∧ (type_of% Go.Proofs.Try.underlying182) := ⟨tI_2, zI_2, Go.Proofs.Try.underlying2, tI_3, zI_3, Go.Proofs.Try.underlying3, tI_4, zI_4, Go.Proofs.Try.underlying4, tI_5, zI_5, Go.Proofs.Try.underlying5, tI_6, zI_6, Go.Proofs.Try.underlying6, tI_7, zI_7, fI_7_0, fI_7_1, fI_7_2, fI_7_3, bI_7, tI_8, zI_8, fI_8_0, fI_8_1, fI_8_2, fI_8_3, bI_8, tI_9, zI_9, Go.Proofs.Try.underlying9, tI_10, zI_10, Go.Proofs.Try.underlying10, tI_11, zI_11, Go.Proofs.Try.underlying11, tI_12, zI_12, Go.Proofs.Try.underlying12, tI_13, zI_13, fI_13_0, fI_13_1, bI_13, tI_14, zI_14, fI_14_0, fI_14_1, bI_14, tI_15, zI_15, tI_58, zI_58, fI_58_0, fI_58_1, bI_58, tI_60, zI_60, eI_60, eB_60, eZ_60, Go.Proofs.Try.underlying60, tI_62, zI_62, eI_62, eB_62, eZ_62, Go.Proofs.Try.underlying62, tI_91, zI_91, fI_91_0, fI_91_1, fI_91_2, fI_91_3, bI_91, tI_92, zI_92, fI_92_0, fI_92_1, fI_92_2, fI_92_3, bI_92, tI_93, zI_93, eI_93, eB_93, eZ_93, Go.Proofs.Try.underlying93, tI_182, zI_182, eI_182, eB_182, eZ_182, Go.Proofs.Try.underlying182⟩
theorem c_l1Signs (st : Store) : ACalls prog 207 [] st (fun r st' => r = .fslice (signs.map .str) ∧ st' = st) := by
  refine acalls_fit [] func207 ntmps207 rfl rfl (by kernel_rfl) (by decide +kernel) (by show 0 ≤ _; decide +kernel) ?_
  intro _
  simp -implicitDefEqProofs only [signs, evb0, evb1, evb2, evb3, evb4, evb5, evb6, evb7, evb8, evb9, ↓evZ2, ↓evZ3, ↓Int.cast_ofNat_Int, implies_true, ne_eq, or_false, false_or, or_self, gt_iff_lt, isMut, aFn, List.contains, List.elem, aBox, aField, aLoad, sub, aNil, aPick, aExt, aFld, gd, noJunk, plainOp, aBuildSlice, aBuild, aFill, aParts, seqParts, fitAll, List.range', ↓reduceIte, reduceCtorEq, Nat.reduceEqDiff, Nat.reduceAdd, Nat.reduceLeDiff, Nat.reduceMul, Nat.reduceLT, Nat.reduceBEq, Int.reduceEq, tf_Gs3_207]

theorem tf_Gs3_206 : (type_of% tI_2) ∧ (type_of% zI_2) ∧ (type_of% Go.Proofs.Try.underlying2) ∧ (type_of% tI_3) ∧ (type_of% zI_3) ∧ (type_of% Go.Proofs.Try.underlying3) ∧ (type_of% tI_4) ∧ (type_of% zI_4) ∧ (type_of% Go.Proofs.Try.underlying4) ∧ (type_of% tI_5) ∧ (type_of% zI_5) ∧ (type_of% Go.Proofs.Try.underlying5) ∧ (type_of% tI_6) ∧ (type_of% zI_6) ∧ (type_of% Go.Proofs.Try.underlying6) ∧ (type_of% tI_7) ∧ (type_of% zI_7) ∧ (type_of% fI_7_0) ∧ (type_of% fI_7_1) ∧ (type_of% fI_7_2) ∧ (type_of% fI_7_3) ∧ (type_of% bI_7) ∧ (type_of% tI_8) ∧ (type_of% zI_8) ∧ (type_of% fI_8_0) ∧ (type_of% fI_8_1) ∧ (type_of% fI_8_2) ∧ (type_of% fI_8_3) ∧ (type_of% bI_8) ∧ (type_of% tI_9) ∧ (type_of% zI_9) ∧ (type_of% Go.Proofs.Try.underlying9) ∧ (type_of% tI_12) ∧ (type_of% zI_12) ∧ (type_of% Go.Proofs.Try.underlying12) ∧ (type_of% tI_17) ∧ (type_of% zI_17) ∧ (type_of% tI_18) ∧ (type_of% zI_18) ∧ (type_of% fI_18_0) ∧ (type_of% bI_18) ∧ (type_of% tI_64) ∧ (type_of% zI_64) ∧ (type_of% fI_64_0) ∧ (type_of% fI_64_1) ∧ (type_of% bI_64) ∧ (type_of% tI_182) ∧ (type_of% zI_182) ∧ (type_of% eI_182) ∧ (type_of% eB_182) ∧ (type_of% eZ_182) ∧ (type_of% Go.Proofs.Try.underlying182) := ⟨tI_2, zI_2, Go.Proofs.Try.underlying2, tI_3, zI_3, Go.Proofs.Try.underlying3, tI_4, zI_4, Go.Proofs.Try.underlying4, tI_5, zI_5, Go.Proofs.Try.underlying5, tI_6, zI_6, Go.Proofs.Try.underlying6, tI_7, zI_7, fI_7_0, fI_7_1, fI_7_2, fI_7_3, bI_7, tI_8, zI_8, fI_8_0, fI_8_1, fI_8_2, fI_8_3, bI_8, tI_9, zI_9, Go.Proofs.Try.underlying9, tI_12, zI_12, Go.Proofs.Try.underlying12, tI_17, zI_17, tI_18, zI_18, fI_18_0, bI_18, tI_64, zI_64, fI_64_0, fI_64_1, bI_64, tI_182, zI_182, eI_182, eB_182, eZ_182, Go.Proofs.Try.underlying182⟩
theorem c_l1Has (l : List ByteArray) (s : ByteArray) (st : Store) : ACalls prog 206 [.slice (l.map .str), .str s] st (fun r st' => r = .bool (l.any fun x => decide (x = s)) ∧ st' = st) := by
  refine acalls_fit [] func206 ntmps206 rfl rfl (by kernel_rfl) (by decide +kernel) (by show 2 ≤ _; decide +kernel) ?_
  simp only [fitsL, AV.fits, and_true, List.length_map]
  intro ⟨⟨hl, _⟩, _⟩
  simp -implicitDefEqProofs only [evb0, evb1, evb2, evb3, evb4, evb5, evb6, evb7, evb8, evb9, ↓evZ2, ↓evZ3, ↓Int.cast_ofNat_Int, implies_true, ne_eq, or_false, false_or, or_self, gt_iff_lt, isMut, aFn, List.contains, List.elem, aBox, aField, aLoad, sub, aNil, aPick, aExt, aFld, gd, noJunk, plainOp, aBuildSlice, aBuild, aFill, aParts, seqParts, fitAll, List.range', ↓reduceIte, reduceCtorEq, Nat.reduceEqDiff, Nat.reduceAdd, Nat.reduceLeDiff, Nat.reduceMul, Nat.reduceLT, Nat.reduceBEq, Int.reduceEq, tf_Gs3_206]
  refine arun_loopL (α := Nat) [] (fun i => i ≤ l.length ∧ ∀ (j : Nat) x, j < i → l[j]? = some x → decide (x = s) = false)
    (fun i => [(0, .slice (l.map .str)), (1, .str s), (5, .int .i64 i)]) (fun _ => st) (fun i => l.length - i) (by decide +kernel)
    ⟨0, ⟨by omega, by intro j x h; omega⟩, LessL.mk (by simp -implicitDefEqProofs only [evb0, evb1, evb2, evb3, evb4, evb5, evb6, evb7, evb8, evb9, ↓evZ2, ↓evZ3, ↓Int.cast_ofNat_Int, implies_true, ne_eq, or_false, false_or, or_self, gt_iff_lt, isMut, aFn, List.contains, List.elem, aBox, aField, aLoad, sub, aNil, aPick, aExt, aFld, gd, noJunk, plainOp, aBuildSlice, aBuild, aFill, aParts, seqParts, fitAll, List.range', ↓reduceIte, reduceCtorEq, Nat.reduceEqDiff, Nat.reduceAdd, Nat.reduceLeDiff, Nat.reduceMul, Nat.reduceLT, Nat.reduceBEq, Int.reduceEq, tf_Gs3_206])⟩ ?_
  intro i ⟨hi, hall⟩
  simp -implicitDefEqProofs only [List.length_map, evb0, evb1, evb2, evb3, evb4, evb5, evb6, evb7, evb8, evb9, ↓evZ2, ↓evZ3, ↓Int.cast_ofNat_Int, implies_true, ne_eq, or_false, false_or, or_self, gt_iff_lt, isMut, aFn, List.contains, List.elem, aBox, aField, aLoad, sub, aNil, aPick, aExt, aFld, gd, noJunk, plainOp, aBuildSlice, aBuild, aFill, aParts, seqParts, fitAll, List.range', ↓reduceIte, reduceCtorEq, Nat.reduceEqDiff, Nat.reduceAdd, Nat.reduceLeDiff, Nat.reduceMul, Nat.reduceLT, Nat.reduceBEq, Int.reduceEq, tf_Gs3_206]
  refine ⟨fun h5 => ?_, fun h5 => ?_⟩
  case refine_2 =>
    simp -implicitDefEqProofs only [evb0, evb1, evb2, evb3, evb4, evb5, evb6, evb7, evb8, evb9, ↓evZ2, ↓evZ3, ↓Int.cast_ofNat_Int, implies_true, ne_eq, or_false, false_or, or_self, gt_iff_lt, isMut, aFn, List.contains, List.elem, aBox, aField, aLoad, sub, aNil, aPick, aExt, aFld, gd, noJunk, plainOp, aBuildSlice, aBuild, aFill, aParts, seqParts, fitAll, List.range', ↓reduceIte, reduceCtorEq, Nat.reduceEqDiff, Nat.reduceAdd, Nat.reduceLeDiff, Nat.reduceMul, Nat.reduceLT, Nat.reduceBEq, Int.reduceEq, tf_Gs3_206]
    simp only [decide_eq_false_iff_not, Int.ofNat_lt] at h5
    have : (l.any fun x => decide (x = s)) = false := by
      rw [List.any_eq_false]
      intro x hx
      obtain ⟨j, hj⟩ := List.getElem?_of_mem hx
      simp [hall j x (by have := (List.getElem?_eq_some_iff.1 hj).1; omega) hj]
    rw [this]
  simp only [decide_eq_true_eq, Int.ofNat_lt] at h5
  obtain ⟨x, hx⟩ : ∃ x, l[i]? = some x := ⟨_, List.getElem?_eq_getElem h5⟩
  simp -implicitDefEqProofs only [ev_at (av := AV.str) eI_182 hx rfl, evb0, evb1, evb2, evb3, evb4, evb5, evb6, evb7, evb8, evb9, ↓evZ2, ↓evZ3, ↓Int.cast_ofNat_Int, implies_true, ne_eq, or_false, false_or, or_self, gt_iff_lt, isMut, aFn, List.contains, List.elem, aBox, aField, aLoad, sub, aNil, aPick, aExt, aFld, gd, noJunk, plainOp, aBuildSlice, aBuild, aFill, aParts, seqParts, fitAll, List.range', ↓reduceIte, reduceCtorEq, Nat.reduceEqDiff, Nat.reduceAdd, Nat.reduceLeDiff, Nat.reduceMul, Nat.reduceLT, Nat.reduceBEq, Int.reduceEq, tf_Gs3_206]
  refine ⟨fun h6 => ?_, fun h6 => ?_⟩
  · simp -implicitDefEqProofs only [evb0, evb1, evb2, evb3, evb4, evb5, evb6, evb7, evb8, evb9, ↓evZ2, ↓evZ3, ↓Int.cast_ofNat_Int, implies_true, ne_eq, or_false, false_or, or_self, gt_iff_lt, isMut, aFn, List.contains, List.elem, aBox, aField, aLoad, sub, aNil, aPick, aExt, aFld, gd, noJunk, plainOp, aBuildSlice, aBuild, aFill, aParts, seqParts, fitAll, List.range', ↓reduceIte, reduceCtorEq, Nat.reduceEqDiff, Nat.reduceAdd, Nat.reduceLeDiff, Nat.reduceMul, Nat.reduceLT, Nat.reduceBEq, Int.reduceEq, tf_Gs3_206]
    have : (l.any fun x => decide (x = s)) = true := by
      rw [List.any_eq_true]
      exact ⟨x, List.mem_of_getElem? hx, h6⟩
    rw [this]
  simp -implicitDefEqProofs only [evb0, evb1, evb2, evb3, evb4, evb5, evb6, evb7, evb8, evb9, ↓evZ2, ↓evZ3, ↓Int.cast_ofNat_Int, implies_true, ne_eq, or_false, false_or, or_self, gt_iff_lt, isMut, aFn, List.contains, List.elem, aBox, aField, aLoad, sub, aNil, aPick, aExt, aFld, gd, noJunk, plainOp, aBuildSlice, aBuild, aFill, aParts, seqParts, fitAll, List.range', ↓reduceIte, reduceCtorEq, Nat.reduceEqDiff, Nat.reduceAdd, Nat.reduceLeDiff, Nat.reduceMul, Nat.reduceLT, Nat.reduceBEq, Int.reduceEq, tf_Gs3_206]
  refine ⟨i + 1, by omega, ⟨by omega, fun j u hj hu => ?_⟩, LessL.mk ?_⟩
  · rcases Nat.lt_or_ge j i with h8 | h8
    · exact hall j u h8 hu
    · obtain rfl : j = i := by omega
      rw [hx] at hu; cases hu
      exact h6
  · have := wrap64 (n := (i : Int) + 1) (by omega) (by omega)
    simp -implicitDefEqProofs only [this, evb0, evb1, evb2, evb3, evb4, evb5, evb6, evb7, evb8, evb9, ↓evZ2, ↓evZ3, ↓Int.cast_ofNat_Int, implies_true, ne_eq, or_false, false_or, or_self, gt_iff_lt, isMut, aFn, List.contains, List.elem, aBox, aField, aLoad, sub, aNil, aPick, aExt, aFld, gd, noJunk, plainOp, aBuildSlice, aBuild, aFill, aParts, seqParts, fitAll, List.range', ↓reduceIte, reduceCtorEq, Nat.reduceEqDiff, Nat.reduceAdd, Nat.reduceLeDiff, Nat.reduceMul, Nat.reduceLT, Nat.reduceBEq, Int.reduceEq, tf_Gs3_206]
theorem tf_Gs3_194 : (type_of% tI_2) ∧ (type_of% zI_2) ∧ (type_of% Go.Proofs.Try.underlying2) ∧ (type_of% tI_3) ∧ (type_of% zI_3) ∧ (type_of% Go.Proofs.Try.underlying3) ∧ (type_of% tI_4) ∧ (type_of% zI_4) ∧ (type_of% Go.Proofs.Try.underlying4) ∧ (type_of% tI_5) ∧ (type_of% zI_5) ∧ (type_of% Go.Proofs.Try.underlying5) ∧ (type_of% tI_6) ∧ (type_of% zI_6) ∧ (type_of% Go.Proofs.Try.underlying6) ∧ (type_of% tI_7) ∧ (type_of% zI_7) ∧ (type_of% fI_7_0) ∧ (type_of% fI_7_1) ∧ (type_of% fI_7_2) ∧ (type_of% fI_7_3) ∧ (type_of% bI_7) ∧ (type_of% tI_8) ∧ (type_of% zI_8) ∧ (type_of% fI_8_0) ∧ (type_of% fI_8_1) ∧ (type_of% fI_8_2) ∧ (type_of% fI_8_3) ∧ (type_of% bI_8) ∧ (type_of% tI_9) ∧ (type_of% zI_9) ∧ (type_of% Go.Proofs.Try.underlying9) ∧ (type_of% tI_18) ∧ (type_of% zI_18) ∧ (type_of% fI_18_0) ∧ (type_of% bI_18) ∧ (type_of% tI_19) ∧ (type_of% zI_19) ∧ (type_of% fI_19_0) ∧ (type_of% bI_19) ∧ (type_of% tI_64) ∧ (type_of% zI_64) ∧ (type_of% fI_64_0) ∧ (type_of% fI_64_1) ∧ (type_of% bI_64) ∧ (type_of% tI_182) ∧ (type_of% zI_182) ∧ (type_of% eI_182) ∧ (type_of% eB_182) ∧ (type_of% eZ_182) ∧ (type_of% Go.Proofs.Try.underlying182) := ⟨tI_2, zI_2, Go.Proofs.Try.underlying2, tI_3, zI_3, Go.Proofs.Try.underlying3, tI_4, zI_4, Go.Proofs.Try.underlying4, tI_5, zI_5, Go.Proofs.Try.underlying5, tI_6, zI_6, Go.Proofs.Try.underlying6, tI_7, zI_7, fI_7_0, fI_7_1, fI_7_2, fI_7_3, bI_7, tI_8, zI_8, fI_8_0, fI_8_1, fI_8_2, fI_8_3, bI_8, tI_9, zI_9, Go.Proofs.Try.underlying9, tI_18, zI_18, fI_18_0, bI_18, tI_19, zI_19, fI_19_0, bI_19, tI_64, zI_64, fI_64_0, fI_64_1, bI_64, tI_182, zI_182, eI_182, eB_182, eZ_182, Go.Proofs.Try.underlying182⟩
theorem c_IndexS (l : List ByteArray) (s : ByteArray) (st : Store) : ACalls prog 194 [.slice (l.map .str), .str s] st (fun r st' => (∃ k : Int, r = .int .i64 k ∧ decide (0 ≤ k) = l.any fun x => decide (s = x)) ∧ st' = st) := by
  refine acalls_fit [] func194 ntmps194 rfl rfl (by kernel_rfl) (by decide +kernel) (by show 2 ≤ _; decide +kernel) ?_
  simp only [fitsL, AV.fits, and_true, List.length_map]
  intro ⟨⟨hl, _⟩, _⟩
  simp -implicitDefEqProofs only [List.length_map, evb0, evb1, evb2, evb3, evb4, evb5, evb6, evb7, evb8, evb9, ↓evZ2, ↓evZ3, ↓Int.cast_ofNat_Int, implies_true, ne_eq, or_false, false_or, or_self, gt_iff_lt, isMut, aFn, List.contains, List.elem, aBox, aField, aLoad, sub, aNil, aPick, aExt, aFld, gd, noJunk, plainOp, aBuildSlice, aBuild, aFill, aParts, seqParts, fitAll, List.range', ↓reduceIte, reduceCtorEq, Nat.reduceEqDiff, Nat.reduceAdd, Nat.reduceLeDiff, Nat.reduceMul, Nat.reduceLT, Nat.reduceBEq, Int.reduceEq, tf_Gs3_194]
  refine arun_loopL (α := Nat) [] (fun i => i ≤ l.length ∧ ∀ (j : Nat) x, j < i → l[j]? = some x → decide (s = x) = false)
    (fun i => [(0, .slice (l.map .str)), (1, .str s), (7, .int .i64 l.length), (8, .int .i64 i)]) (fun _ => st) (fun i => l.length - i) (by decide +kernel)
    ⟨0, ⟨by omega, by intro j x h; omega⟩, LessL.mk (by simp -implicitDefEqProofs only [evb0, evb1, evb2, evb3, evb4, evb5, evb6, evb7, evb8, evb9, ↓evZ2, ↓evZ3, ↓Int.cast_ofNat_Int, implies_true, ne_eq, or_false, false_or, or_self, gt_iff_lt, isMut, aFn, List.contains, List.elem, aBox, aField, aLoad, sub, aNil, aPick, aExt, aFld, gd, noJunk, plainOp, aBuildSlice, aBuild, aFill, aParts, seqParts, fitAll, List.range', ↓reduceIte, reduceCtorEq, Nat.reduceEqDiff, Nat.reduceAdd, Nat.reduceLeDiff, Nat.reduceMul, Nat.reduceLT, Nat.reduceBEq, Int.reduceEq, tf_Gs3_194])⟩ ?_
  intro i ⟨hi, hall⟩
  simp -implicitDefEqProofs only [List.length_map, evb0, evb1, evb2, evb3, evb4, evb5, evb6, evb7, evb8, evb9, ↓evZ2, ↓evZ3, ↓Int.cast_ofNat_Int, implies_true, ne_eq, or_false, false_or, or_self, gt_iff_lt, isMut, aFn, List.contains, List.elem, aBox, aField, aLoad, sub, aNil, aPick, aExt, aFld, gd, noJunk, plainOp, aBuildSlice, aBuild, aFill, aParts, seqParts, fitAll, List.range', ↓reduceIte, reduceCtorEq, Nat.reduceEqDiff, Nat.reduceAdd, Nat.reduceLeDiff, Nat.reduceMul, Nat.reduceLT, Nat.reduceBEq, Int.reduceEq, tf_Gs3_194]
  refine ⟨fun h5 => ?_, fun h5 => ?_⟩
  case refine_2 =>
    simp -implicitDefEqProofs only [evb0, evb1, evb2, evb3, evb4, evb5, evb6, evb7, evb8, evb9, ↓evZ2, ↓evZ3, ↓Int.cast_ofNat_Int, implies_true, ne_eq, or_false, false_or, or_self, gt_iff_lt, isMut, aFn, List.contains, List.elem, aBox, aField, aLoad, sub, aNil, aPick, aExt, aFld, gd, noJunk, plainOp, aBuildSlice, aBuild, aFill, aParts, seqParts, fitAll, List.range', ↓reduceIte, reduceCtorEq, Nat.reduceEqDiff, Nat.reduceAdd, Nat.reduceLeDiff, Nat.reduceMul, Nat.reduceLT, Nat.reduceBEq, Int.reduceEq, tf_Gs3_194]
    simp only [decide_eq_false_iff_not, Int.ofNat_lt] at h5
    have : (l.any fun x => decide (s = x)) = false := by
      rw [List.any_eq_false]
      intro x hx
      obtain ⟨j, hj⟩ := List.getElem?_of_mem hx
      simp [hall j x (by have := (List.getElem?_eq_some_iff.1 hj).1; omega) hj]
    rw [this]
    exact ⟨_, rfl, rfl⟩
  simp only [decide_eq_true_eq, Int.ofNat_lt] at h5
  obtain ⟨x, hx⟩ : ∃ x, l[i]? = some x := ⟨_, List.getElem?_eq_getElem h5⟩
  simp -implicitDefEqProofs only [ev_at (av := AV.str) eI_182 hx rfl, evb0, evb1, evb2, evb3, evb4, evb5, evb6, evb7, evb8, evb9, ↓evZ2, ↓evZ3, ↓Int.cast_ofNat_Int, implies_true, ne_eq, or_false, false_or, or_self, gt_iff_lt, isMut, aFn, List.contains, List.elem, aBox, aField, aLoad, sub, aNil, aPick, aExt, aFld, gd, noJunk, plainOp, aBuildSlice, aBuild, aFill, aParts, seqParts, fitAll, List.range', ↓reduceIte, reduceCtorEq, Nat.reduceEqDiff, Nat.reduceAdd, Nat.reduceLeDiff, Nat.reduceMul, Nat.reduceLT, Nat.reduceBEq, Int.reduceEq, tf_Gs3_194]
  refine ⟨fun h6 => ?_, fun h6 => ?_⟩
  · simp -implicitDefEqProofs only [evb0, evb1, evb2, evb3, evb4, evb5, evb6, evb7, evb8, evb9, ↓evZ2, ↓evZ3, ↓Int.cast_ofNat_Int, implies_true, ne_eq, or_false, false_or, or_self, gt_iff_lt, isMut, aFn, List.contains, List.elem, aBox, aField, aLoad, sub, aNil, aPick, aExt, aFld, gd, noJunk, plainOp, aBuildSlice, aBuild, aFill, aParts, seqParts, fitAll, List.range', ↓reduceIte, reduceCtorEq, Nat.reduceEqDiff, Nat.reduceAdd, Nat.reduceLeDiff, Nat.reduceMul, Nat.reduceLT, Nat.reduceBEq, Int.reduceEq, tf_Gs3_194]
    have : (l.any fun x => decide (s = x)) = true := by
      rw [List.any_eq_true]
      exact ⟨x, List.mem_of_getElem? hx, h6⟩
    rw [this]
    exact ⟨_, rfl, by simp⟩
  simp -implicitDefEqProofs only [evb0, evb1, evb2, evb3, evb4, evb5, evb6, evb7, evb8, evb9, ↓evZ2, ↓evZ3, ↓Int.cast_ofNat_Int, implies_true, ne_eq, or_false, false_or, or_self, gt_iff_lt, isMut, aFn, List.contains, List.elem, aBox, aField, aLoad, sub, aNil, aPick, aExt, aFld, gd, noJunk, plainOp, aBuildSlice, aBuild, aFill, aParts, seqParts, fitAll, List.range', ↓reduceIte, reduceCtorEq, Nat.reduceEqDiff, Nat.reduceAdd, Nat.reduceLeDiff, Nat.reduceMul, Nat.reduceLT, Nat.reduceBEq, Int.reduceEq, tf_Gs3_194]
  refine ⟨i + 1, by omega, ⟨by omega, fun j u hj hu => ?_⟩, LessL.mk ?_⟩
  · rcases Nat.lt_or_ge j i with h8 | h8
    · exact hall j u h8 hu
    · obtain rfl : j = i := by omega
      rw [hx] at hu; cases hu
      exact h6
  · have := wrap64 (n := (i : Int) + 1) (by omega) (by omega)
    simp -implicitDefEqProofs only [this, evb0, evb1, evb2, evb3, evb4, evb5, evb6, evb7, evb8, evb9, ↓evZ2, ↓evZ3, ↓Int.cast_ofNat_Int, implies_true, ne_eq, or_false, false_or, or_self, gt_iff_lt, isMut, aFn, List.contains, List.elem, aBox, aField, aLoad, sub, aNil, aPick, aExt, aFld, gd, noJunk, plainOp, aBuildSlice, aBuild, aFill, aParts, seqParts, fitAll, List.range', ↓reduceIte, reduceCtorEq, Nat.reduceEqDiff, Nat.reduceAdd, Nat.reduceLeDiff, Nat.reduceMul, Nat.reduceLT, Nat.reduceBEq, Int.reduceEq, tf_Gs3_194]

theorem tf_Gs3_174 : (type_of% tI_3) ∧ (type_of% zI_3) ∧ (type_of% Go.Proofs.Try.underlying3) ∧ (type_of% tI_4) ∧ (type_of% zI_4) ∧ (type_of% Go.Proofs.Try.underlying4) ∧ (type_of% tI_5) ∧ (type_of% zI_5) ∧ (type_of% Go.Proofs.Try.underlying5) ∧ (type_of% tI_6) ∧ (type_of% zI_6) ∧ (type_of% Go.Proofs.Try.underlying6) ∧ (type_of% tI_7) ∧ (type_of% zI_7) ∧ (type_of% fI_7_0) ∧ (type_of% fI_7_1) ∧ (type_of% fI_7_2) ∧ (type_of% fI_7_3) ∧ (type_of% bI_7) ∧ (type_of% tI_9) ∧ (type_of% zI_9) ∧ (type_of% Go.Proofs.Try.underlying9) ∧ (type_of% tI_64) ∧ (type_of% zI_64) ∧ (type_of% fI_64_0) ∧ (type_of% fI_64_1) ∧ (type_of% bI_64) ∧ (type_of% tI_118) ∧ (type_of% zI_118) ∧ (type_of% fI_118_0) ∧ (type_of% fI_118_1) ∧ (type_of% bI_118) ∧ (type_of% tI_182) ∧ (type_of% zI_182) ∧ (type_of% eI_182) ∧ (type_of% eB_182) ∧ (type_of% eZ_182) ∧ (type_of% Go.Proofs.Try.underlying182) ∧ (type_of% tI_194) ∧ (type_of% zI_194) ∧ (type_of% Go.Proofs.Try.underlying194) := ⟨tI_3, zI_3, Go.Proofs.Try.underlying3, tI_4, zI_4, Go.Proofs.Try.underlying4, tI_5, zI_5, Go.Proofs.Try.underlying5, tI_6, zI_6, Go.Proofs.Try.underlying6, tI_7, zI_7, fI_7_0, fI_7_1, fI_7_2, fI_7_3, bI_7, tI_9, zI_9, Go.Proofs.Try.underlying9, tI_64, zI_64, fI_64_0, fI_64_1, bI_64, tI_118, zI_118, fI_118_0, fI_118_1, bI_118, tI_182, zI_182, eI_182, eB_182, eZ_182, Go.Proofs.Try.underlying182, tI_194, zI_194, Go.Proofs.Try.underlying194⟩
theorem c_ContainsS (l : List ByteArray) (s : ByteArray) (st : Store) : ACalls prog 174 [.slice (l.map .str), .str s] st (fun r st' => r = .bool (l.any fun x => decide (s = x)) ∧ st' = st) := by
  refine acalls_fit [] func174 ntmps174 rfl rfl (by kernel_rfl) (by decide +kernel) (by show 2 ≤ _; decide +kernel) ?_
  intro _
  simp -implicitDefEqProofs only [evb0, evb1, evb2, evb3, evb4, evb5, evb6, evb7, evb8, evb9, ↓evZ2, ↓evZ3, ↓Int.cast_ofNat_Int, implies_true, ne_eq, or_false, false_or, or_self, gt_iff_lt, isMut, aFn, List.contains, List.elem, aBox, aField, aLoad, sub, aNil, aPick, aExt, aFld, gd, noJunk, plainOp, aBuildSlice, aBuild, aFill, aParts, seqParts, fitAll, List.range', ↓reduceIte, reduceCtorEq, Nat.reduceEqDiff, Nat.reduceAdd, Nat.reduceLeDiff, Nat.reduceMul, Nat.reduceLT, Nat.reduceBEq, Int.reduceEq, tf_Gs3_174]
  refine (c_IndexS l s st).mono ?_
  rintro _ _ ⟨⟨k, rfl, hk⟩, rfl⟩
  simp -implicitDefEqProofs only [evb0, evb1, evb2, evb3, evb4, evb5, evb6, evb7, evb8, evb9, ↓evZ2, ↓evZ3, ↓Int.cast_ofNat_Int, implies_true, ne_eq, or_false, false_or, or_self, gt_iff_lt, isMut, aFn, List.contains, List.elem, aBox, aField, aLoad, sub, aNil, aPick, aExt, aFld, gd, noJunk, plainOp, aBuildSlice, aBuild, aFill, aParts, seqParts, fitAll, List.range', ↓reduceIte, reduceCtorEq, Nat.reduceEqDiff, Nat.reduceAdd, Nat.reduceLeDiff, Nat.reduceMul, Nat.reduceLT, Nat.reduceBEq, Int.reduceEq, tf_Gs3_174]
  rw [← hk]

theorem c_ContainsS' (l : List ByteArray) (s : ByteArray) (st : Store) : ACalls prog 174 [.fslice (l.map .str), .str s] st (fun r st' => r = .bool (l.any fun x => decide (s = x)) ∧ st' = st) :=
  ACalls.softArgs (by simp only [softL, AV.soft]; exact c_ContainsS l s st)
theorem c_l1Has' (l : List ByteArray) (s : ByteArray) (st : Store) : ACalls prog 206 [.fslice (l.map .str), .str s] st (fun r st' => r = .bool (l.any fun x => decide (x = s)) ∧ st' = st) :=
  ACalls.softArgs (by simp only [softL, AV.soft]; exact c_l1Has l s st)

def nameValid (s : ByteArray) : Bool := letters s || signs.any fun x => decide (s = x)
theorem any_swap (s : ByteArray) : (signs.any fun x => decide (x = s)) = signs.any fun x => decide (s = x) := by
  congr 1
  funext x
  exact decide_eq_decide.2 ⟨Eq.symm, Eq.symm⟩

theorem tf_Gs3_130 : (type_of% tI_2) ∧ (type_of% zI_2) ∧ (type_of% Go.Proofs.Try.underlying2) ∧ (type_of% tI_3) ∧ (type_of% zI_3) ∧ (type_of% Go.Proofs.Try.underlying3) ∧ (type_of% tI_4) ∧ (type_of% zI_4) ∧ (type_of% Go.Proofs.Try.underlying4) ∧ (type_of% tI_6) ∧ (type_of% zI_6) ∧ (type_of% Go.Proofs.Try.underlying6) ∧ (type_of% tI_7) ∧ (type_of% zI_7) ∧ (type_of% fI_7_0) ∧ (type_of% fI_7_1) ∧ (type_of% fI_7_2) ∧ (type_of% fI_7_3) ∧ (type_of% bI_7) ∧ (type_of% tI_8) ∧ (type_of% zI_8) ∧ (type_of% fI_8_0) ∧ (type_of% fI_8_1) ∧ (type_of% fI_8_2) ∧ (type_of% fI_8_3) ∧ (type_of% bI_8) ∧ (type_of% tI_9) ∧ (type_of% zI_9) ∧ (type_of% Go.Proofs.Try.underlying9) ∧ (type_of% tI_10) ∧ (type_of% zI_10) ∧ (type_of% Go.Proofs.Try.underlying10) ∧ (type_of% tI_182) ∧ (type_of% zI_182) ∧ (type_of% eI_182) ∧ (type_of% eB_182) ∧ (type_of% eZ_182) ∧ (type_of% Go.Proofs.Try.underlying182) := ⟨tI_2, zI_2, Go.Proofs.Try.underlying2, tI_3, zI_3, Go.Proofs.Try.underlying3, tI_4, zI_4, Go.Proofs.Try.underlying4, tI_6, zI_6, Go.Proofs.Try.underlying6, tI_7, zI_7, fI_7_0, fI_7_1, fI_7_2, fI_7_3, bI_7, tI_8, zI_8, fI_8_0, fI_8_1, fI_8_2, fI_8_3, bI_8, tI_9, zI_9, Go.Proofs.Try.underlying9, tI_10, zI_10, Go.Proofs.Try.underlying10, tI_182, zI_182, eI_182, eB_182, eZ_182, Go.Proofs.Try.underlying182⟩
theorem c_impl_NameValid (s : ByteArray) (st : Store) : ACalls prog 130 [.str s] st (fun r st' => r = .bool (nameValid s) ∧ st' = st) := by
  refine acalls_fit [] func130 ntmps130 rfl rfl (by kernel_rfl) (by decide +kernel) (by show 1 ≤ _; decide +kernel) ?_
  intro _
  repeat' (first
    | (simp -implicitDefEqProofs only [*, evb0, evb1, evb2, evb3, evb4, evb5, evb6, evb7, evb8, evb9, ↓evZ2, ↓evZ3, ↓Int.cast_ofNat_Int, implies_true, ne_eq, or_false, false_or, or_self, gt_iff_lt, isMut, aFn, List.contains, List.elem, aBox, aField, aLoad, sub, aNil, aPick, aExt, aFld, gd, noJunk, plainOp, aBuildSlice, aBuild, aFill, aParts, seqParts, fitAll, List.range', ↓reduceIte, reduceCtorEq, Nat.reduceEqDiff, Nat.reduceAdd, Nat.reduceLeDiff, Nat.reduceMul, Nat.reduceLT, Nat.reduceBEq, Int.reduceEq, tf_Gs3_130])
    | (refine opsG_split (fun h => ?_) (fun h => ?_))
    | (refine (c_isLetters s st).to ?_) | (refine (c_symbols st).to ?_) | (refine (c_ContainsS' signs s st).to ?_)
    | (refine cond_split (fun h => ?_) (fun h => ?_)))
  all_goals simp only [nameValid, *, Bool.not_false, Bool.true_or, Bool.false_or]

theorem tf_Gs3_193 : (type_of% tI_2) ∧ (type_of% zI_2) ∧ (type_of% Go.Proofs.Try.underlying2) ∧ (type_of% tI_3) ∧ (type_of% zI_3) ∧ (type_of% Go.Proofs.Try.underlying3) ∧ (type_of% tI_4) ∧ (type_of% zI_4) ∧ (type_of% Go.Proofs.Try.underlying4) ∧ (type_of% tI_6) ∧ (type_of% zI_6) ∧ (type_of% Go.Proofs.Try.underlying6) ∧ (type_of% tI_7) ∧ (type_of% zI_7) ∧ (type_of% fI_7_0) ∧ (type_of% fI_7_1) ∧ (type_of% fI_7_2) ∧ (type_of% fI_7_3) ∧ (type_of% bI_7) ∧ (type_of% tI_8) ∧ (type_of% zI_8) ∧ (type_of% fI_8_0) ∧ (type_of% fI_8_1) ∧ (type_of% fI_8_2) ∧ (type_of% fI_8_3) ∧ (type_of% bI_8) ∧ (type_of% tI_9) ∧ (type_of% zI_9) ∧ (type_of% Go.Proofs.Try.underlying9) ∧ (type_of% tI_10) ∧ (type_of% zI_10) ∧ (type_of% Go.Proofs.Try.underlying10) ∧ (type_of% tI_31) ∧ (type_of% zI_31) ∧ (type_of% fI_31_0) ∧ (type_of% bI_31) ∧ (type_of% tI_182) ∧ (type_of% zI_182) ∧ (type_of% eI_182) ∧ (type_of% eB_182) ∧ (type_of% eZ_182) ∧ (type_of% Go.Proofs.Try.underlying182) := ⟨tI_2, zI_2, Go.Proofs.Try.underlying2, tI_3, zI_3, Go.Proofs.Try.underlying3, tI_4, zI_4, Go.Proofs.Try.underlying4, tI_6, zI_6, Go.Proofs.Try.underlying6, tI_7, zI_7, fI_7_0, fI_7_1, fI_7_2, fI_7_3, bI_7, tI_8, zI_8, fI_8_0, fI_8_1, fI_8_2, fI_8_3, bI_8, tI_9, zI_9, Go.Proofs.Try.underlying9, tI_10, zI_10, Go.Proofs.Try.underlying10, tI_31, zI_31, fI_31_0, bI_31, tI_182, zI_182, eI_182, eB_182, eZ_182, Go.Proofs.Try.underlying182⟩
theorem c_spec_NameValid (s : ByteArray) (st : Store) : ACalls prog 193 [.str s] st (fun r st' => r = .bool (nameValid s) ∧ st' = st) := by
  refine acalls_fit [] func193 ntmps193 rfl rfl (by kernel_rfl) (by decide +kernel) (by show 1 ≤ _; decide +kernel) ?_
  intro _
  repeat' (first
    | (simp -implicitDefEqProofs only [*, evb0, evb1, evb2, evb3, evb4, evb5, evb6, evb7, evb8, evb9, ↓evZ2, ↓evZ3, ↓Int.cast_ofNat_Int, implies_true, ne_eq, or_false, false_or, or_self, gt_iff_lt, isMut, aFn, List.contains, List.elem, aBox, aField, aLoad, sub, aNil, aPick, aExt, aFld, gd, noJunk, plainOp, aBuildSlice, aBuild, aFill, aParts, seqParts, fitAll, List.range', ↓reduceIte, reduceCtorEq, Nat.reduceEqDiff, Nat.reduceAdd, Nat.reduceLeDiff, Nat.reduceMul, Nat.reduceLT, Nat.reduceBEq, Int.reduceEq, tf_Gs3_193])
    | (refine opsG_split (fun h => ?_) (fun h => ?_))
    | (refine (c_l1Word s st).to ?_) | (refine (c_l1Signs st).to ?_) | (refine (c_l1Has' signs s st).to ?_)
    | (refine cond_split (fun h => ?_) (fun h => ?_)))
  all_goals simp only [nameValid, any_swap, *, Bool.not_false, Bool.true_or, Bool.false_or]
end Go.AW

/- Valid terms as data. -/
namespace Go.AW
def ownOk (k n : Int) (s : ByteArray) (len : Int) : Bool :=
  cond (decide (k = 1)) (decide ((0 : Int) ≤ n) && decide (n ≤ 25) && decide (s = ⟨#[]⟩) && decide (len = 0))
    (cond (decide (k = 2)) (decide ((-999 : Int) ≤ n) && decide (n ≤ 999) && decide (s = ⟨#[]⟩) && decide (len = 0))
      (cond (decide (k = 3)) (decide (n = 0) && nameValid s && decide (len ≤ 4)) false))
mutual
/-- Well formed, down to a depth. -/
def Tm.shape : Tm → Int → Bool
  | .mk k n s ts, d => decide (1 ≤ d) && ownOk k n s ts.length && tmsShape ts (d - 1)
def tmsShape : List Tm → Int → Bool
  | [], _ => true
  | t :: ts, d => t.shape d && tmsShape ts d
end
theorem tmsShape_all : ∀ (ts : List Tm) (d : Int), tmsShape ts d = ts.all fun t => t.shape d
  | [], _ => rfl
  | t :: ts, d => by simp only [tmsShape, List.all_cons, tmsShape_all ts d]
theorem Tm.shape_mk (k n : Int) (s : ByteArray) (ts : List Tm) (d : Int) : (Tm.mk k n s ts).shape d = (decide (1 ≤ d) && ownOk k n s ts.length && ts.all fun t => t.shape (d - 1)) := by simp only [Tm.shape, tmsShape_all]
mutual
/-- The number of nodes. -/
def Tm.nodes : Tm → Nat
  | .mk _ _ _ ts => 1 + tmsNodes ts
def tmsNodes : List Tm → Nat
  | [] => 0
  | t :: ts => t.nodes + tmsNodes ts
end
theorem tmsNodes_sum : ∀ (ts : List Tm), tmsNodes ts = sumL Tm.nodes ts
  | [] => rfl
  | t :: ts => by simp only [tmsNodes, sumL, tmsNodes_sum ts]
theorem Tm.nodes_mk (k n : Int) (s : ByteArray) (ts : List Tm) : (Tm.mk k n s ts).nodes = 1 + sumL Tm.nodes ts := by simp only [Tm.nodes, tmsNodes_sum]
def Tm.valid (t : Tm) : Bool := t.shape 30 && decide (t.nodes ≤ 120)
end Go.AW

/- Variables of terms, as data; what grows beside a block of its own. -/
namespace Go.AW
set_option linter.unusedSimpArgs false

mutual
def Tm.vars : Tm → List Int → List Int
  | .mk k n _ ts, l => tmsVars ts (if k = 1 ∧ n ∉ l then l ++ [n] else l)
def tmsVars : List Tm → List Int → List Int
  | [], l => l
  | t :: ts, l => tmsVars ts (t.vars l)
end
mutual
theorem Tm.vars_len : ∀ (t : Tm) (l : List Int), (t.vars l).length ≤ l.length + t.nodes
  | .mk k n s ts, l => by
    have h := tmsVars_len ts (if k = 1 ∧ n ∉ l then l ++ [n] else l)
    have h2 : (if k = 1 ∧ n ∉ l then l ++ [n] else l).length ≤ l.length + 1 := by split <;> simp
    rw [Tm.vars, Tm.nodes_mk]
    omega
theorem tmsVars_len : ∀ (ts : List Tm) (l : List Int), (tmsVars ts l).length ≤ l.length + sumL Tm.nodes ts
  | [], l => by simp [tmsVars, sumL]
  | t :: ts, l => by
    have h1 := Tm.vars_len t l
    have h2 := tmsVars_len ts (t.vars l)
    simp only [tmsVars, sumL]
    omega
end

def idxI (v : Int) : List Int → Int → Int
  | [], _ => -1
  | x :: xs, i => if v = x then i else idxI v xs (i + 1)
/-! ### A block beside a list that grows -/
theorem accS_upd {st : Store} {b x : Nat} {l : List AV} {o : AO} (h : l ≠ [] → x ≠ b) : (accS st b l).upd x o = accS (st.upd x o) b l := by
  cases l with
  | nil => rfl
  | cons y l => exact Store.upd_comm _ _ _ (Ne.symm (h (by simp)))
/-! ### Reading what grows -/
theorem acc_at {P : Program} {t : TypeId} {ag : Bool} {w b i : Nat} {l : List AV} {x : AV} (hI : eI P t = some (ag, w)) (h : l[i]? = some x) : aIndexAddr P t (accV w b l) (.int .i64 (i : Int)) = some (.ptr b (i * w)) := by
  have hi := (List.getElem?_eq_some_iff.1 h).1
  rw [accV_cons (by rintro rfl; simp at hi)]
  exact held_at hI hi
theorem acc_blk {st : Store} {b i : Nat} {l : List Int} {x : Int} (h : l[i]? = some x) : accS st b (l.map iv) b = some (.cells (l.map iv)) ∧ (l.map iv)[i]? = some (iv x) := by
  have hi := (List.getElem?_eq_some_iff.1 h).1
  have hne : l.map iv ≠ [] := by rintro e; rw [List.map_eq_nil_iff] at e; subst e; simp at hi
  have hfl : (l.map iv).flatMap AV.cells = l.map iv := by
    clear h hi hne
    induction l with
    | nil => rfl
    | cons y l ih => simp only [List.map_cons, List.flatMap_cons, ih]; rfl
  exact ⟨by rw [accS_cons hne, hfl, Store.upd_same], by rw [List.getElem?_map, h]; rfl⟩

mutual
def Tm.wf : Tm → Bool
  | .mk k _ _ ts => (!decide (k = 1) || ts.isEmpty) && tmsWf ts
def tmsWf : List Tm → Bool
  | [] => true
  | t :: ts => t.wf && tmsWf ts
end
theorem tmsWf_all : ∀ (ts : List Tm), tmsWf ts = ts.all Tm.wf
  | [] => rfl
  | t :: ts => by simp only [tmsWf, List.all_cons, tmsWf_all ts]
theorem Tm.wf_mk {k n : Int} {s : ByteArray} {ts : List Tm} (h : (Tm.mk k n s ts).wf = true) : (k = 1 → ts = []) ∧ ∀ x ∈ ts, x.wf = true := by
  simp only [Tm.wf, tmsWf_all, Bool.and_eq_true, Bool.or_eq_true, Bool.not_eq_true', decide_eq_false_iff_not, List.isEmpty_iff, List.all_eq_true] at h
  exact ⟨fun hk => h.1.resolve_left (fun hn => hn hk), h.2⟩
mutual
theorem Tm.wf_of : ∀ (t : Tm) (d : Int), t.shape d = true → t.wf = true
  | .mk k n s ts, d, h => by
    rw [Tm.shape_mk] at h
    simp only [Bool.and_eq_true, List.all_eq_true] at h
    obtain ⟨⟨_, h1⟩, h2⟩ := h
    have h3 := tmsWf_of ts (d - 1) h2
    simp only [Tm.wf, h3, Bool.and_true, Bool.or_eq_true, Bool.not_eq_true', decide_eq_false_iff_not, List.isEmpty_iff]
    by_cases hk : k = 1
    · refine .inr ?_
      subst hk
      simp [ownOk] at h1
      exact h1.2
    · exact .inl hk
theorem tmsWf_of : ∀ (ts : List Tm) (d : Int), (∀ x ∈ ts, x.shape d = true) → tmsWf ts = true
  | [], _, _ => rfl
  | t :: ts, d, h => by simp only [tmsWf, Tm.wf_of t d (h t (by simp)), tmsWf_of ts d (fun x hx => h x (by simp [hx])), Bool.and_self]
end
theorem Tm.valid_nodes {t : Tm} (h : t.valid = true) : t.nodes ≤ 120 := by simp only [Tm.valid, Bool.and_eq_true, decide_eq_true_eq] at h; exact h.2
end Go.AW

/- Substitutions, variables that are walked, unification: plain data. -/
namespace Go.AW
set_option linter.unusedSimpArgs false
set_option linter.unusedVariables false

def Tm.k : Tm → Int | .mk k _ _ _ => k
def Tm.n : Tm → Int | .mk _ n _ _ => n
def Tm.s : Tm → ByteArray | .mk _ _ s _ => s
def Tm.ts : Tm → List Tm | .mk _ _ _ ts => ts
theorem Tm.eta (t : Tm) : t = .mk t.k t.n t.s t.ts := by cases t; rfl

/-- A variable. -/
def vr (n : Int) : Tm := .mk 1 n ⟨#[]⟩ []

mutual
/-- Every variable replaced. -/
def Tm.mapv (f : Int → Tm) : Tm → Tm
  | .mk k n s ts => if k = 1 then f n else .mk k n s (tmsMapv f ts)
def tmsMapv (f : Int → Tm) : List Tm → List Tm
  | [] => []
  | t :: ts => t.mapv f :: tmsMapv f ts
end
theorem tmsMapv_map (f : Int → Tm) : ∀ ts : List Tm, tmsMapv f ts = ts.map (Tm.mapv f)
  | [] => rfl
  | t :: ts => by simp only [tmsMapv, List.map_cons, tmsMapv_map f ts]
theorem Tm.mapv_var (f : Int → Tm) {k n : Int} {s : ByteArray} {ts : List Tm} (h : k = 1) : (Tm.mk k n s ts).mapv f = f n := by simp only [Tm.mapv, h, if_true]
theorem Tm.mapv_mk (f : Int → Tm) {k n : Int} {s : ByteArray} {ts : List Tm} (h : k ≠ 1) : (Tm.mk k n s ts).mapv f = .mk k n s (ts.map (Tm.mapv f)) := by simp only [Tm.mapv, h, if_false, tmsMapv_map]
theorem mapv_vr (f : Int → Tm) (n : Int) : (vr n).mapv f = f n := Tm.mapv_var f rfl

mutual
/-- The variables. -/
def Tm.vl : Tm → List Int
  | .mk k n _ ts => if k = 1 then [n] else tmsVl ts
def tmsVl : List Tm → List Int
  | [] => []
  | t :: ts => t.vl ++ tmsVl ts
end
theorem tmsVl_mem {v : Int} : ∀ {ts : List Tm}, v ∈ tmsVl ts ↔ ∃ t ∈ ts, v ∈ t.vl
  | [] => by simp [tmsVl]
  | t :: ts => by simp [tmsVl, tmsVl_mem (ts := ts)]
theorem Tm.vl_var {k n : Int} {s : ByteArray} {ts : List Tm} (h : k = 1) : (Tm.mk k n s ts).vl = [n] := by simp only [Tm.vl, h, if_true]
theorem Tm.vl_mk {k n v : Int} {s : ByteArray} {ts : List Tm} (h : k ≠ 1) : v ∈ (Tm.mk k n s ts).vl ↔ ∃ t ∈ ts, v ∈ t.vl := by simp only [Tm.vl, h, if_false, tmsVl_mem]
theorem vl_vr (n : Int) : (vr n).vl = [n] := Tm.vl_var rfl

theorem Tm.ind {p : Tm → Prop} (h : ∀ k n s ts, (∀ t ∈ ts, p t) → p (.mk k n s ts)) : ∀ t, p t
  | .mk k n s ts => h k n s ts fun t ht => Tm.ind h t
termination_by t => SizeOf.sizeOf t
decreasing_by have := List.sizeOf_lt_of_mem ht; simp only [Tm.mk.sizeOf_spec]; omega

theorem mapv_congr {f g : Int → Tm} : ∀ (t : Tm), (∀ v ∈ t.vl, f v = g v) → t.mapv f = t.mapv g := by
  intro t
  induction t using Tm.ind with
  | h k n s ts ih =>
    intro h
    by_cases hk : k = 1
    · rw [Tm.mapv_var f hk, Tm.mapv_var g hk]; exact h n (by rw [Tm.vl_var hk]; simp)
    · rw [Tm.mapv_mk f hk, Tm.mapv_mk g hk]
      congr 1
      exact List.map_congr_left fun x hx => ih x hx fun v hv => h v ((Tm.vl_mk hk).2 ⟨x, hx, hv⟩)
theorem mapv_mapv (f g : Int → Tm) (t : Tm) : (t.mapv f).mapv g = t.mapv fun v => (f v).mapv g := by
  induction t using Tm.ind with
  | h k n s ts ih =>
    by_cases hk : k = 1
    · rw [Tm.mapv_var f hk, Tm.mapv_var _ hk]
    · rw [Tm.mapv_mk f hk, Tm.mapv_mk g hk, Tm.mapv_mk _ hk, List.map_map]
      congr 1
      exact List.map_congr_left fun x hx => ih x hx
theorem vl_mapv {f : Int → Tm} {w : Int} (t : Tm) : w ∈ (t.mapv f).vl ↔ ∃ v ∈ t.vl, w ∈ (f v).vl := by
  induction t using Tm.ind with
  | h k n s ts ih =>
    by_cases hk : k = 1
    · rw [Tm.mapv_var f hk, Tm.vl_var hk]; simp
    · rw [Tm.mapv_mk f hk, Tm.vl_mk hk]
      constructor
      · rintro ⟨x, hx, hw⟩
        obtain ⟨y, hy, rfl⟩ := List.mem_map.1 hx
        obtain ⟨v, hv, hvw⟩ := (ih y hy).1 hw
        exact ⟨v, (Tm.vl_mk hk).2 ⟨y, hy, hv⟩, hvw⟩
      · rintro ⟨v, hv, hw⟩
        obtain ⟨y, hy, hvy⟩ := (Tm.vl_mk hk).1 hv
        exact ⟨_, List.mem_map.2 ⟨y, hy, rfl⟩, (ih y hy).2 ⟨v, hvy, hw⟩⟩
theorem Tm.nodes_pos (t : Tm) : 0 < t.nodes := by cases t; rw [Tm.nodes_mk]; omega
theorem nodes_mapv {f : Int → Tm} {v : Int} : ∀ (t : Tm), v ∈ t.vl → (f v).nodes ≤ (t.mapv f).nodes ∧ (t.k ≠ 1 → (f v).nodes < (t.mapv f).nodes) := by
  intro t
  induction t using Tm.ind with
  | h k n s ts ih =>
    intro hv
    by_cases hk : k = 1
    · rw [Tm.vl_var hk] at hv
      simp only [List.mem_cons, List.not_mem_nil, or_false] at hv
      subst hv
      rw [Tm.mapv_var f hk]
      exact ⟨Nat.le_refl _, fun h => absurd hk h⟩
    · obtain ⟨x, hx, hvx⟩ := (Tm.vl_mk hk).1 hv
      have h1 := (ih x hx hvx).1
      have h2 := sumL_mem (f := Tm.nodes) (List.mem_map.2 ⟨x, hx, rfl⟩ : x.mapv f ∈ ts.map (Tm.mapv f))
      rw [Tm.mapv_mk f hk, Tm.nodes_mk]
      omega

/-! ### Bindings -/
abbrev Sub := Int → Option Tm
def Sub.set (σ : Sub) (n : Int) (t : Tm) : Sub := fun m => if m = n then some t else σ m
def Sub.none : Sub := fun _ => Option.none
/-- What each variable stands for in the end; a rank that falls along the bindings. -/
structure Good (σ : Sub) (R : Int → Tm) (rk : Int → Nat) (B : Nat) : Prop where
  sol : ∀ n, R n = match σ n with | some u => u.mapv R | .none => vr n
  rank : ∀ n u, σ n = some u → ∀ w ∈ u.vl, rk w < rk n
  bd : ∀ n, rk n < B
/-- θ solves the bindings. -/
def Sol (θ : Int → Tm) (σ : Sub) : Prop := ∀ n u, σ n = some u → θ n = u.mapv θ

section
variable {σ : Sub} {R R' : Int → Tm} {rk rk' : Int → Nat} {B B' : Nat}
theorem Good.none : Good Sub.none vr (fun _ => 0) 1 := ⟨fun n => rfl, fun n u h => (by cases h), fun n => Nat.zero_lt_one⟩
theorem Good.free (G : Good σ R rk B) {n : Int} (h : σ n = .none) : R n = vr n := by rw [G.sol n, h]
theorem Good.bound (G : Good σ R rk B) {n : Int} {u : Tm} (h : σ n = some u) : R n = u.mapv R := by rw [G.sol n, h]
theorem Good.isSol (G : Good σ R rk B) : Sol R σ := fun n u h => G.bound h
theorem Good.ind (G : Good σ R rk B) {p : Int → Prop} (h0 : ∀ n, σ n = .none → p n) (h1 : ∀ n u, σ n = some u → (∀ w ∈ u.vl, p w) → p n) : ∀ n, p n := by
  intro n
  generalize hk : rk n = k
  induction k using Nat.strongRecOn generalizing n with
  | _ k ih =>
    cases h : σ n with
    | none => exact h0 n h
    | some u => exact h1 n u h fun w hw => ih (rk w) (hk ▸ G.rank n u h w hw) w rfl
theorem Good.uniq (G : Good σ R rk B) (G' : Good σ R' rk' B') : R = R' := by
  funext n
  refine G.ind (p := fun n => R n = R' n) (fun n h => ?_) (fun n u h ih => ?_) n
  · rw [G.free h, G'.free h]
  · rw [G.bound h, G'.bound h]; exact mapv_congr u ih
theorem Good.factor (G : Good σ R rk B) {θ : Int → Tm} (S : Sol θ σ) (n : Int) : (R n).mapv θ = θ n := by
  refine G.ind (p := fun n => (R n).mapv θ = θ n) (fun n h => ?_) (fun n u h ih => ?_) n
  · rw [G.free h, mapv_vr]
  · rw [G.bound h, mapv_mapv, S n u h]; exact mapv_congr u ih
theorem Good.factorT (G : Good σ R rk B) {θ : Int → Tm} (S : Sol θ σ) (t : Tm) : (t.mapv R).mapv θ = t.mapv θ := by
  rw [mapv_mapv]; exact mapv_congr t fun v _ => G.factor S v
theorem Good.canon (G : Good σ R rk B) (n : Int) : (R n).mapv vr = R n := by
  refine G.ind (p := fun n => (R n).mapv vr = R n) (fun n h => ?_) (fun n u h ih => ?_) n
  · rw [G.free h, mapv_vr]
  · rw [G.bound h, mapv_mapv]; exact mapv_congr u ih
theorem Good.canonT (G : Good σ R rk B) (t : Tm) : (t.mapv R).mapv vr = t.mapv R := by
  rw [mapv_mapv]; exact mapv_congr t fun v _ => G.canon v
/-- One binding more. -/
theorem Good.bind (G : Good σ R rk B) {n : Int} {t : Tm} (hn : σ n = .none) (ho : n ∉ (t.mapv R).vl) :
    ∃ rk' B', Good (σ.set n t) (fun m => (R m).mapv fun v => if v = n then t.mapv R else vr v) rk' B' := by
  have key : (t.mapv R).mapv (fun v => if v = n then t.mapv R else vr v) = t.mapv R := by
    rw [mapv_congr (g := vr) (t.mapv R) (fun v hv => if_neg fun e => ho (by rw [← e]; exact hv)), G.canonT]
  refine ⟨fun v => if n ∈ (R v).vl then rk v + B else rk v, B + B, fun m => ?_, fun m u h w hw => ?_, fun m => ?_⟩
  · by_cases hm : m = n
    · subst hm
      simp only [Sub.set, if_true]
      rw [G.free hn, mapv_vr, if_pos rfl]
      rw [← mapv_mapv, key]
    · simp only [Sub.set, hm, if_false]
      cases h : σ m with
      | none => rw [G.free h, mapv_vr, if_neg hm]
      | some u => rw [G.bound h, mapv_mapv]
  · by_cases hm : m = n
    · subst hm
      simp only [Sub.set, if_true, Option.some.injEq] at h
      subst h
      have hw' : m ∉ (R w).vl := fun h => ho ((vl_mapv t).2 ⟨w, hw, h⟩)
      have : m ∈ (R m).vl := by rw [G.free hn, vl_vr]; simp
      have := G.bd w
      simp only [hw', if_false]
      rw [if_pos (by assumption)]
      omega
    · simp only [Sub.set, hm, if_false] at h
      have h1 := G.rank m u h w hw
      by_cases hw' : n ∈ (R w).vl
      · have : n ∈ (R m).vl := by rw [G.bound h]; exact (vl_mapv u).2 ⟨w, hw, hw'⟩
        simp only [hw', this, if_true]; omega
      · simp only [hw', if_false]; split <;> omega
  · have := G.bd m
    split <;> omega
end

open Classical in
/-- What each variable stands for in the end. -/
noncomputable def rs (σ : Sub) : Int → Tm := if h : ∃ R rk B, Good σ R rk B then h.choose else vr
theorem Good.rs {σ : Sub} {R : Int → Tm} {rk : Int → Nat} {B : Nat} (G : Good σ R rk B) : rs σ = R := by
  unfold AW.rs
  have h : ∃ R rk B, Good σ R rk B := ⟨R, rk, B, G⟩
  rw [dif_pos h]
  obtain ⟨rk', B', G'⟩ := h.choose_spec
  exact G'.uniq G

/-! ### Walking -/
inductive WkN (σ : Sub) : Nat → Tm → Tm → Prop
  | stop {t : Tm} (h : t.k = 1 → σ t.n = none) : WkN σ 0 t t
  | go {f : Nat} {t u v : Tm} (h1 : t.k = 1) (h2 : σ t.n = some u) (h3 : WkN σ f u v) : WkN σ (f + 1) t v
theorem WkN.det {σ : Sub} {f g : Nat} {t u v : Tm} (h : WkN σ f t u) : WkN σ g t v → u = v := by
  induction h generalizing g v with
  | stop h =>
    intro h'
    cases h' with
    | stop => rfl
    | go h1 h2 h3 => rw [h h1] at h2; cases h2
  | go h1 h2 h3 ih =>
    intro h'
    cases h' with
    | stop h => rw [h h1] at h2; cases h2
    | go h1' h2' h3' => rw [h2] at h2'; cases h2'; exact ih h3'
theorem WkN.total {σ : Sub} {R : Int → Tm} {rk : Int → Nat} {B : Nat} (G : Good σ R rk B) (t : Tm) : ∃ f u, WkN σ f t u := by
  have key : ∀ n, ∀ t : Tm, t.k = 1 → t.n = n → ∃ f u, WkN σ f t u := by
    intro n
    refine G.ind (p := fun n => ∀ t : Tm, t.k = 1 → t.n = n → ∃ f u, WkN σ f t u) (fun n h t hk hn => ?_) (fun n u h ih t hk hn => ?_) n
    · exact ⟨0, t, .stop fun _ => by rw [hn, h]⟩
    · by_cases hu : u.k = 1
      · have : u.n ∈ u.vl := by rw [Tm.eta u, Tm.vl_var hu]; simp [Tm.n]
        obtain ⟨f, v, hv⟩ := ih u.n this u hu rfl
        exact ⟨f + 1, v, .go hk (by rw [hn, h]) hv⟩
      · exact ⟨1, u, .go hk (by rw [hn, h]) (.stop fun h => absurd h hu)⟩
  by_cases hk : t.k = 1
  · exact key t.n t hk rfl
  · exact ⟨0, t, .stop fun h => absurd h hk⟩
theorem Tm.vl_k1 {t : Tm} (h : t.k = 1) : t.vl = [t.n] := by cases t; exact Tm.vl_var h
theorem Tm.mapv_k1 {t : Tm} (f : Int → Tm) (h : t.k = 1) : t.mapv f = f t.n := by cases t; exact Tm.mapv_var f h
theorem Tm.mapv_k {t : Tm} (f : Int → Tm) (h : t.k ≠ 1) : t.mapv f = .mk t.k t.n t.s (t.ts.map (Tm.mapv f)) := by cases t; exact Tm.mapv_mk f h
theorem WkN.end {σ : Sub} {f : Nat} {t u : Tm} (h : WkN σ f t u) : u.k = 1 → σ u.n = none := by induction h with | stop h => exact h | go _ _ _ ih => exact ih
theorem WkN.mapv {σ : Sub} {θ : Int → Tm} (S : Sol θ σ) {f : Nat} {t u : Tm} (h : WkN σ f t u) : u.mapv θ = t.mapv θ := by
  induction h with
  | stop => rfl
  | go h1 h2 _ ih => rw [ih, Tm.mapv_k1 θ h1, S _ _ h2]
theorem WkN.rank {σ : Sub} {R : Int → Tm} {rk : Int → Nat} {B : Nat} (G : Good σ R rk B) {f : Nat} {t u : Tm} (h : WkN σ f t u) : ∀ w ∈ u.vl, ∃ v ∈ t.vl, rk w ≤ rk v ∧ (f ≠ 0 → rk w < rk v) := by
  induction h with
  | stop h => exact fun w hw => ⟨w, hw, Nat.le_refl _, fun h => absurd rfl h⟩
  | @go f t u v h1 h2 _ ih =>
    intro w hw
    obtain ⟨x, hx, hle, _⟩ := ih w hw
    have := G.rank _ _ h2 x hx
    exact ⟨t.n, by rw [Tm.vl_k1 h1]; simp, by omega, fun _ => by omega⟩
/-- What holds of a term and of all that is bound. -/
theorem WkN.all {σ : Sub} {p : Tm → Prop} (hp : ∀ n u, σ n = some u → p u) {f : Nat} {t u : Tm} (h : WkN σ f t u) (ht : p t) : p u := by
  induction h with
  | stop => exact ht
  | go _ h2 _ ih => exact ih (hp _ _ h2)
open Classical in
noncomputable def wk (σ : Sub) (t : Tm) : Tm := if h : ∃ u f, WkN σ f t u then h.choose else t
theorem WkN.wk {σ : Sub} {f : Nat} {t u : Tm} (h : WkN σ f t u) : wk σ t = u := by
  unfold AW.wk
  have h' : ∃ u f, WkN σ f t u := ⟨u, f, h⟩
  rw [dif_pos h']
  obtain ⟨g, hg⟩ := h'.choose_spec
  exact hg.det h
theorem Good.wk {σ : Sub} {R : Int → Tm} {rk : Int → Nat} {B : Nat} (G : Good σ R rk B) (t : Tm) : ∃ f, WkN σ f t (wk σ t) := by
  obtain ⟨f, u, h⟩ := WkN.total G t
  exact ⟨f, by rw [h.wk]; exact h⟩

/-! ### Unification -/
open Classical in
noncomputable def bnd (σ : Sub) (n : Int) (t : Tm) : Bool × Sub × List Int := if n ∈ (t.mapv (rs σ)).vl then (false, σ, []) else (true, σ.set n t, [n])
open Classical in
/-- The same apart from the arguments. -/
def headEq (a b : Tm) : Bool := decide (a.k = b.k) && decide (a.n = b.n) && decide (a.s = b.s) && decide (a.ts.length = b.ts.length)
mutual
noncomputable def uniF : Nat → Sub → Tm → Tm → Option (Bool × Sub × List Int)
  | 0, _, _, _ => none
  | g + 1, σ, a, b =>
    if (wk σ a).k = 1 ∧ (wk σ b).k = 1 ∧ (wk σ a).n = (wk σ b).n then some (true, σ, [])
    else if (wk σ a).k = 1 then some (bnd σ (wk σ a).n (wk σ b))
    else if (wk σ b).k = 1 then some (bnd σ (wk σ b).n (wk σ a))
    else if headEq (wk σ a) (wk σ b) = true then unisF g σ (wk σ a).ts (wk σ b).ts
    else some (false, σ, [])
termination_by g => (g, 0)
noncomputable def unisF : Nat → Sub → List Tm → List Tm → Option (Bool × Sub × List Int)
  | g, σ, a :: xs, b :: ys => match uniF g σ a b with
    | none => none
    | some (false, σ', tr) => some (false, σ', tr)
    | some (true, σ', tr) => match unisF g σ' xs ys with
      | none => none
      | some (r, σ'', tr') => some (r, σ'', tr ++ tr')
  | _, σ, _, _ => some (true, σ, [])
termination_by g _ xs => (g, xs.length + 1)
end
theorem uniF_cases {g : Nat} {σ σ' : Sub} {a b : Tm} {r : Bool} {add : List Int} (h : uniF (g + 1) σ a b = some (r, σ', add)) :
    ((wk σ a).k = 1 ∧ (wk σ b).k = 1 ∧ (wk σ a).n = (wk σ b).n ∧ true = r ∧ σ = σ' ∧ [] = add) ∨
    ((wk σ a).k = 1 ∧ ¬((wk σ b).k = 1 ∧ (wk σ a).n = (wk σ b).n) ∧ bnd σ (wk σ a).n (wk σ b) = (r, σ', add)) ∨
    ((wk σ a).k ≠ 1 ∧ (wk σ b).k = 1 ∧ bnd σ (wk σ b).n (wk σ a) = (r, σ', add)) ∨
    ((wk σ a).k ≠ 1 ∧ (wk σ b).k ≠ 1 ∧ headEq (wk σ a) (wk σ b) = true ∧ unisF g σ (wk σ a).ts (wk σ b).ts = some (r, σ', add)) ∨
    ((wk σ a).k ≠ 1 ∧ (wk σ b).k ≠ 1 ∧ headEq (wk σ a) (wk σ b) = false ∧ false = r ∧ σ = σ' ∧ [] = add) := by
  rw [uniF] at h
  split at h
  · rename_i h1; exact .inl ⟨h1.1, h1.2.1, h1.2.2, by simpa using h⟩
  · rename_i h1
    split at h
    · rename_i h2; exact .inr (.inl ⟨h2, fun h3 => h1 ⟨h2, h3⟩, Option.some.inj h⟩)
    · rename_i h2
      split at h
      · rename_i h3; exact .inr (.inr (.inl ⟨h2, h3, Option.some.inj h⟩))
      · rename_i h3
        split at h
        · rename_i h4; exact .inr (.inr (.inr (.inl ⟨h2, h3, h4, h⟩)))
        · rename_i h4; exact .inr (.inr (.inr (.inr ⟨h2, h3, by simpa using h4, by simpa using h⟩)))
end Go.AW

/- Unification: it keeps the bindings good, makes the terms equal, and is most general; it comes to an end. -/
namespace Go.AW
set_option linter.unusedSimpArgs false
set_option linter.unusedVariables false

abbrev IsGood (σ : Sub) : Prop := ∃ R rk B, Good σ R rk B
theorem IsGood.rs {σ : Sub} (h : IsGood σ) : ∃ rk B, Good σ (rs σ) rk B := by
  obtain ⟨R, rk, B, G⟩ := h
  exact ⟨rk, B, by rw [G.rs]; exact G⟩
theorem IsGood.none : IsGood Sub.none := ⟨_, _, _, Good.none⟩

/-- What unification leaves. -/
structure Uni (σ : Sub) (a b : List Tm) (r : Bool) (σ' : Sub) (tr : List Int) : Prop where
  good : IsGood σ'
  keep : ∀ m, m ∉ tr → σ' m = σ m
  new : ∀ m ∈ tr, σ m = none ∧ σ' m ≠ none
  nodup : tr.Nodup
  eq : r = true → a.map (Tm.mapv (rs σ')) = b.map (Tm.mapv (rs σ'))
  gen : ∀ θ, Sol θ σ → a.map (Tm.mapv θ) = b.map (Tm.mapv θ) → r = true ∧ Sol θ σ'
  same : tr = [] → σ' = σ

theorem Sol.sub {σ σ' : Sub} {θ : Int → Tm} {tr : List Int} (S : Sol θ σ') (keep : ∀ m, m ∉ tr → σ' m = σ m) (new : ∀ m ∈ tr, σ m = none ∧ σ' m ≠ none) : Sol θ σ := fun n u h => by
  by_cases hn : n ∈ tr
  · rw [(new n hn).1] at h; cases h
  · exact S n u (by rw [keep n hn]; exact h)

theorem Uni.isSol {σ σ' : Sub} {a b : List Tm} {r : Bool} {tr : List Int} (h : Uni σ a b r σ' tr) : Sol (rs σ') σ := by
  obtain ⟨rk, B, G⟩ := h.good.rs
  exact G.isSol.sub h.keep h.new
/-- What was equal stays equal. -/
theorem Uni.stays {σ σ' : Sub} {a b : List Tm} {r : Bool} {tr : List Int} (h : Uni σ a b r σ' tr) (hg : IsGood σ) {x y : Tm} (e : x.mapv (rs σ) = y.mapv (rs σ)) : x.mapv (rs σ') = y.mapv (rs σ') := by
  obtain ⟨rk, B, G⟩ := hg.rs
  rw [← G.factorT h.isSol x, ← G.factorT h.isSol y, e]

theorem bnd_uni {σ : Sub} (hg : IsGood σ) {a b : Tm} {n : Int} (ha : a.k = 1) (han : a.n = n) (hn : σ n = none) (hb : b.k = 1 → σ b.n = none ∧ b.n ≠ n) {r : Bool} {σ' : Sub} {tr : List Int} (h : bnd σ n b = (r, σ', tr)) : Uni σ [a] [b] r σ' tr := by
  obtain ⟨rk, B, G⟩ := hg.rs
  have hav : ∀ θ, a.mapv θ = θ n := fun θ => by rw [Tm.mapv_k1 θ ha, han]
  unfold bnd at h
  split at h
  · rename_i hmem
    cases h
    refine ⟨hg, fun _ _ => rfl, fun _ h => absurd h (List.not_mem_nil), List.nodup_nil, fun h => (by cases h), fun θ S e => ?_, fun _ => rfl⟩
    exfalso
    simp only [List.map_cons, List.map_nil, List.cons.injEq, and_true] at e
    rw [hav] at e
    by_cases hbk : b.k = 1
    · rw [Tm.mapv_k1 _ hbk, G.free (hb hbk).1, vl_vr] at hmem
      simp only [List.mem_cons, List.not_mem_nil, or_false] at hmem
      exact (hb hbk).2 hmem.symm
    · rw [← G.factorT S b] at e
      have h1 : ((b.mapv (rs σ)).mapv θ) = (b.mapv (rs σ)).mapv θ := rfl
      have hk : (b.mapv (rs σ)).k ≠ 1 := by rw [Tm.mapv_k _ hbk]; exact hbk
      have := (nodes_mapv (f := θ) (b.mapv (rs σ)) hmem).2 hk
      rw [e] at this
      exact absurd this (Nat.lt_irrefl _)
  · rename_i hmem
    cases h
    obtain ⟨rk', B', G'⟩ := G.bind hn hmem
    have hR := G'.rs
    refine ⟨⟨_, _, _, G'⟩, fun m hm => ?_, fun m hm => ?_, by simp, fun _ => ?_, fun θ S e => ⟨rfl, fun m u hu => ?_⟩, fun h => (by cases h)⟩
    · simp only [List.mem_cons, List.not_mem_nil, or_false] at hm
      simp only [Sub.set, hm, if_false]
    · simp only [List.mem_cons, List.not_mem_nil, or_false] at hm
      subst hm
      exact ⟨hn, by simp [Sub.set]⟩
    · simp only [List.map_cons, List.map_nil, List.cons.injEq, and_true]
      rw [hav, hR]
      exact G'.bound (by simp [Sub.set])
    · simp only [List.map_cons, List.map_nil, List.cons.injEq, and_true] at e
      rw [hav] at e
      simp only [Sub.set] at hu
      split at hu
      · rename_i hmn
        cases hu
        rw [hmn, e]
      · exact S m u hu

theorem headEq_iff {a b : Tm} : headEq a b = true ↔ a.k = b.k ∧ a.n = b.n ∧ a.s = b.s ∧ a.ts.length = b.ts.length := by
  simp only [headEq, Bool.and_eq_true, decide_eq_true_eq, and_assoc]

theorem unisF_list (g : Nat) (ihU0 : ∀ σ a b r σ' tr, IsGood σ → uniF g σ a b = some (r, σ', tr) → Uni σ [a] [b] r σ' tr) : ∀ xs ys σ r σ' tr, IsGood σ → xs.length = ys.length → unisF g σ xs ys = some (r, σ', tr) → Uni σ xs ys r σ' tr := by
    intro xs
    have ihU := ihU0
    induction xs with
    | nil =>
      intro ys σ r σ' tr hg hl h
      cases ys with
      | cons _ _ => simp at hl
      | nil =>
        simp only [unisF, Option.some.injEq, Prod.mk.injEq] at h
        obtain ⟨rfl, rfl, rfl⟩ := h
        exact ⟨hg, fun _ _ => rfl, fun _ h => absurd h (List.not_mem_nil), List.nodup_nil, fun _ => rfl, fun θ S _ => ⟨rfl, S⟩, fun _ => rfl⟩
    | cons a xs ih =>
      intro ys σ r σ' tr hg hl h
      cases ys with
      | nil => simp at hl
      | cons b ys =>
        rw [unisF] at h
        cases h1 : uniF g σ a b with
        | none => rw [h1] at h; cases h
        | some p =>
          obtain ⟨r1, σ1, tr1⟩ := p
          have U1 := ihU σ a b r1 σ1 tr1 hg h1
          rw [h1] at h
          cases r1 with
          | false =>
            simp only [Option.some.injEq, Prod.mk.injEq] at h
            obtain ⟨rfl, rfl, rfl⟩ := h
            refine ⟨U1.good, U1.keep, U1.new, U1.nodup, fun h => (by cases h), fun θ S e => ?_, U1.same⟩
            simp only [List.map_cons, List.cons.injEq] at e
            exact U1.gen θ S (by simp [e.1])
          | true =>
            simp only at h
            cases h2 : unisF g σ1 xs ys with
            | none => rw [h2] at h; cases h
            | some p2 =>
              obtain ⟨r2, σ2, tr2⟩ := p2
              rw [h2] at h
              simp only [Option.some.injEq, Prod.mk.injEq] at h
              obtain ⟨rfl, rfl, rfl⟩ := h
              have U2 := ih ys σ1 r2 σ2 tr2 U1.good (by simpa using hl) h2
              refine ⟨U2.good, fun m hm => ?_, fun m hm => ?_, ?_, fun hr => ?_, fun θ S e => ?_, fun h => ?_⟩
              · simp only [List.mem_append, not_or] at hm
                rw [U2.keep m hm.2, U1.keep m hm.1]
              · rcases List.mem_append.1 hm with hm | hm
                · refine ⟨(U1.new m hm).1, fun h => (U1.new m hm).2 ?_⟩
                  by_cases h3 : m ∈ tr2
                  · exact (U2.new m h3).1
                  · rw [← U2.keep m h3]; exact h
                · refine ⟨?_, (U2.new m hm).2⟩
                  by_cases h3 : m ∈ tr1
                  · exact (U1.new m h3).1
                  · rw [← U1.keep m h3]; exact (U2.new m hm).1
              · rw [List.nodup_append]
                refine ⟨U1.nodup, U2.nodup, fun x hx y hy e => ?_⟩
                subst e
                exact (U1.new x hx).2 (U2.new x hy).1
              · have e1 := U1.eq rfl
                simp only [List.map_cons, List.map_nil, List.cons.injEq, and_true] at e1
                simp only [List.map_cons]
                rw [U2.stays U1.good e1, U2.eq hr]
              · simp only [List.map_cons, List.cons.injEq] at e
                obtain ⟨_, S1⟩ := U1.gen θ S (by simp [e.1])
                exact U2.gen θ S1 e.2
              · simp only [List.append_eq_nil_iff] at h
                rw [U2.same h.2, U1.same h.1]

theorem uniF_both : ∀ (g : Nat), (∀ σ a b r σ' tr, IsGood σ → uniF g σ a b = some (r, σ', tr) → Uni σ [a] [b] r σ' tr) ∧
    ∀ xs ys σ r σ' tr, IsGood σ → xs.length = ys.length → unisF g σ xs ys = some (r, σ', tr) → Uni σ xs ys r σ' tr := by
  intro g
  induction g with
  | zero =>
    have h0 : ∀ σ a b r σ' tr, IsGood σ → uniF 0 σ a b = some (r, σ', tr) → Uni σ [a] [b] r σ' tr := fun σ a b r σ' tr hg h => by simp only [uniF] at h; cases h
    exact ⟨h0, unisF_list _ h0⟩
  | succ g ih =>
    suffices hU : ∀ σ a b r σ' tr, IsGood σ → uniF (g + 1) σ a b = some (r, σ', tr) → Uni σ [a] [b] r σ' tr from ⟨hU, unisF_list _ hU⟩
    intro σ a b r σ' tr hg h
    obtain ⟨ihU, ihL⟩ := ih
    have ihL' := fun xs ys σ r σ' tr hg hl h => ihL xs ys σ r σ' tr hg hl h
    obtain ⟨rk, B, G⟩ := hg.rs
    obtain ⟨fa, wa⟩ := G.wk a
    obtain ⟨fb, wb⟩ := G.wk b
    have hma : ∀ θ, Sol θ σ → (wk σ a).mapv θ = a.mapv θ := fun θ S => wa.mapv S
    have hmb : ∀ θ, Sol θ σ → (wk σ b).mapv θ = b.mapv θ := fun θ S => wb.mapv S
    -- it suffices to speak of the walked terms
    suffices hw : Uni σ [wk σ a] [wk σ b] r σ' tr by
      refine ⟨hw.good, hw.keep, hw.new, hw.nodup, fun hr => ?_, fun θ S e => ?_, hw.same⟩
      · have := hw.eq hr
        simp only [List.map_cons, List.map_nil, List.cons.injEq, and_true] at this ⊢
        rw [← hma _ hw.isSol, ← hmb _ hw.isSol]; exact this
      · refine hw.gen θ S ?_
        simp only [List.map_cons, List.map_nil, List.cons.injEq, and_true] at e ⊢
        rw [hma θ S, hmb θ S]; exact e
    have ea := wa.end
    have eb := wb.end
    rw [uniF] at h
    generalize wk σ a = a at *
    generalize wk σ b = b at *
    split at h
    · rename_i hc
      simp only [Option.some.injEq, Prod.mk.injEq] at h
      obtain ⟨rfl, rfl, rfl⟩ := h
      have he : ∀ θ, a.mapv θ = b.mapv θ := fun θ => by rw [Tm.mapv_k1 θ hc.1, Tm.mapv_k1 θ hc.2.1, hc.2.2]
      exact ⟨hg, fun _ _ => rfl, fun _ h => absurd h (List.not_mem_nil), List.nodup_nil, fun _ => by simp [he], fun θ S _ => ⟨rfl, S⟩, fun _ => rfl⟩
    · rename_i hc
      split at h
      · rename_i ha
        exact bnd_uni hg ha rfl (ea ha) (fun hb => ⟨eb hb, fun e => hc ⟨ha, hb, e.symm⟩⟩) (Option.some.inj h)
      · rename_i ha
        split at h
        · rename_i hb
          have U := bnd_uni hg hb rfl (eb hb) (fun ha' => absurd ha' ha) (Option.some.inj h)
          exact ⟨U.good, U.keep, U.new, U.nodup, fun hr => (U.eq hr).symm, fun θ S e => U.gen θ S e.symm, U.same⟩
        · rename_i hb
          split at h
          · rename_i hh
            rw [headEq_iff] at hh
            have U := ihL' a.ts b.ts σ r σ' tr hg hh.2.2.2 h
            refine ⟨U.good, U.keep, U.new, U.nodup, fun hr => ?_, fun θ S e => ?_, U.same⟩
            · simp only [List.map_cons, List.map_nil, List.cons.injEq, and_true]
              rw [Tm.mapv_k _ ha, Tm.mapv_k _ hb, hh.1, hh.2.1, hh.2.2.1, U.eq hr]
            · simp only [List.map_cons, List.map_nil, List.cons.injEq, and_true] at e
              rw [Tm.mapv_k _ ha, Tm.mapv_k _ hb] at e
              exact U.gen θ S (by injection e)
          · rename_i hh
            simp only [Option.some.injEq, Prod.mk.injEq] at h
            obtain ⟨rfl, rfl, rfl⟩ := h
            refine ⟨hg, fun _ _ => rfl, fun _ h => absurd h (List.not_mem_nil), List.nodup_nil, fun h => (by cases h), fun θ S e => ?_, fun _ => rfl⟩
            exfalso
            simp only [List.map_cons, List.map_nil, List.cons.injEq, and_true] at e
            rw [Tm.mapv_k _ ha, Tm.mapv_k _ hb] at e
            injection e with e1 e2 e3 e4
            exact hh (headEq_iff.2 ⟨e1, e2, e3, by simpa using congrArg List.length e4⟩)

theorem uniF_uni {g : Nat} {σ : Sub} {a b : Tm} {r : Bool} {σ' : Sub} {tr : List Int} (hg : IsGood σ) (h : uniF g σ a b = some (r, σ', tr)) : Uni σ [a] [b] r σ' tr := (uniF_both g).1 σ a b r σ' tr hg h
end Go.AW

/- Unification comes to an end. -/
namespace Go.AW
set_option linter.unusedSimpArgs false
set_option linter.unusedVariables false

theorem unisF_mono (g g' : Nat) (ih : ∀ σ a b x, uniF g σ a b = some x → uniF g' σ a b = some x) : ∀ xs ys σ x, unisF g σ xs ys = some x → unisF g' σ xs ys = some x := by
  intro xs
  induction xs with
  | nil => intro ys σ x h; cases ys <;> simpa only [unisF] using h
  | cons a xs ihx =>
    intro ys σ x h
    cases ys with
    | nil => simpa only [unisF] using h
    | cons b ys =>
      rw [unisF] at h ⊢
      cases h1 : uniF g σ a b with
      | none => rw [h1] at h; cases h
      | some p =>
        rw [h1] at h
        rw [ih _ _ _ _ h1]
        obtain ⟨r1, σ1, tr1⟩ := p
        cases r1 with
        | false => exact h
        | true =>
          simp only at h ⊢
          cases h2 : unisF g σ1 xs ys with
          | none => rw [h2] at h; cases h
          | some p2 => rw [h2] at h; rw [ihx ys σ1 p2 h2]; exact h
theorem uniF_succ : ∀ (g : Nat) σ a b x, uniF g σ a b = some x → uniF (g + 1) σ a b = some x := by
  intro g
  induction g with
  | zero => intro σ a b x h; simp only [uniF] at h; cases h
  | succ g ih =>
    intro σ a b x h
    rw [uniF] at h ⊢
    split
    · rename_i hc; rw [if_pos hc] at h; exact h
    · rename_i hc
      rw [if_neg hc] at h
      split
      · rename_i hc; rw [if_pos hc] at h; exact h
      · rename_i hc
        rw [if_neg hc] at h
        split
        · rename_i hc; rw [if_pos hc] at h; exact h
        · rename_i hc
          rw [if_neg hc] at h
          split
          · rename_i hc; rw [if_pos hc] at h; exact unisF_mono g (g + 1) ih _ _ _ _ h
          · rename_i hc; rw [if_neg hc] at h; exact h
theorem uniF_le {g g' : Nat} (hle : g ≤ g') {σ : Sub} {a b : Tm} {x : Bool × Sub × List Int} (h : uniF g σ a b = some x) : uniF g' σ a b = some x := by
  induction hle with
  | refl => exact h
  | step _ ih => exact uniF_succ _ _ _ _ _ ih
theorem unisF_le {g g' : Nat} (hle : g ≤ g') {σ : Sub} {xs ys : List Tm} {x : Bool × Sub × List Int} (h : unisF g σ xs ys = some x) : unisF g' σ xs ys = some x :=
  unisF_mono g g' (fun _ _ _ _ h => uniF_le hle h) xs ys σ x h

/-! ### All is within a list of variables -/
def unb (σ : Sub) (V : List Int) : Nat := V.countP fun v => (σ v).isNone
def InV (V : List Int) (t : Tm) : Prop := ∀ v ∈ t.vl, v ∈ V
def RangeIn (V : List Int) (σ : Sub) : Prop := ∀ n u, σ n = some u → InV V u
theorem unb_lt {σ σ' : Sub} {tr : List Int} {V : List Int} (keep : ∀ m, m ∉ tr → σ' m = σ m) (new : ∀ m ∈ tr, σ m = none ∧ σ' m ≠ none) {m : Int} (hm : m ∈ tr) (hV : m ∈ V) : unb σ' V < unb σ V := by
  have mono : ∀ v, (σ' v).isNone = true → (σ v).isNone = true := fun v h => by
    by_cases hv : v ∈ tr
    · rw [(new v hv).1]; rfl
    · rw [← keep v hv]; exact h
  have le : ∀ W : List Int, unb σ' W ≤ unb σ W := fun W => List.countP_mono_left fun v _ h => mono v h
  unfold unb at *
  induction V with
  | nil => cases hV
  | cons v V ih =>
    simp only [List.countP_cons]
    have hle := le V
    rcases List.mem_cons.1 hV with rfl | hV
    · have h1 : (σ m).isNone = true := by rw [(new m hm).1]; rfl
      have h2 : (σ' m).isNone = false := by
        cases h : σ' m with
        | none => exact absurd h (new m hm).2
        | some _ => rfl
      simp only [h1, h2, if_true, Bool.false_eq_true, if_false]
      omega
    · have := ih hV
      have h3 := mono v
      by_cases h4 : (σ' v).isNone = true
      · rw [if_pos h4, if_pos (h3 h4)]; omega
      · rw [if_neg h4]; split <;> omega
theorem WkN.inV {σ : Sub} {V : List Int} (hr : RangeIn V σ) {f : Nat} {t u : Tm} (h : WkN σ f t u) (ht : InV V t) : InV V u := h.all (p := InV V) (fun n u hu => hr n u hu) ht
theorem InV.kid {V : List Int} {t x : Tm} (h : InV V t) (hk : t.k ≠ 1) (hx : x ∈ t.ts) : InV V x := fun v hv => h v (by cases t; exact (Tm.vl_mk hk).2 ⟨x, hx, hv⟩)

/-- What is left is within the list. -/
theorem uni_inV : ∀ (g : Nat), (∀ σ a b r σ' tr V, IsGood σ → uniF g σ a b = some (r, σ', tr) → RangeIn V σ → InV V a → InV V b → RangeIn V σ' ∧ ∀ m ∈ tr, m ∈ V) ∧
    ∀ xs ys σ r σ' tr V, IsGood σ → xs.length = ys.length → unisF g σ xs ys = some (r, σ', tr) → RangeIn V σ → (∀ x ∈ xs, InV V x) → (∀ y ∈ ys, InV V y) → RangeIn V σ' ∧ ∀ m ∈ tr, m ∈ V := by
  intro g
  have list : ∀ g, (∀ σ a b r σ' tr V, IsGood σ → uniF g σ a b = some (r, σ', tr) → RangeIn V σ → InV V a → InV V b → RangeIn V σ' ∧ ∀ m ∈ tr, m ∈ V) →
      ∀ xs ys σ r σ' tr V, IsGood σ → xs.length = ys.length → unisF g σ xs ys = some (r, σ', tr) → RangeIn V σ → (∀ x ∈ xs, InV V x) → (∀ y ∈ ys, InV V y) → RangeIn V σ' ∧ ∀ m ∈ tr, m ∈ V := by
    intro g ihU xs
    induction xs with
    | nil =>
      intro ys σ r σ' tr V hg hl h hr _ _
      cases ys with
      | cons _ _ => simp at hl
      | nil =>
        simp only [unisF, Option.some.injEq, Prod.mk.injEq] at h
        obtain ⟨rfl, rfl, rfl⟩ := h
        exact ⟨hr, fun _ h => absurd h (List.not_mem_nil)⟩
    | cons a xs ih =>
      intro ys σ r σ' tr V hg hl h hr hx hy
      cases ys with
      | nil => simp at hl
      | cons b ys =>
        rw [unisF] at h
        cases h1 : uniF g σ a b with
        | none => rw [h1] at h; cases h
        | some p =>
          obtain ⟨r1, σ1, tr1⟩ := p
          have U1 := uniF_uni hg h1
          obtain ⟨i1, i2⟩ := ihU σ a b r1 σ1 tr1 V hg h1 hr (hx a (by simp)) (hy b (by simp))
          rw [h1] at h
          cases r1 with
          | false =>
            simp only [Option.some.injEq, Prod.mk.injEq] at h
            obtain ⟨rfl, rfl, rfl⟩ := h
            exact ⟨i1, i2⟩
          | true =>
            simp only at h
            cases h2 : unisF g σ1 xs ys with
            | none => rw [h2] at h; cases h
            | some p2 =>
              obtain ⟨r2, σ2, tr2⟩ := p2
              rw [h2] at h
              simp only [Option.some.injEq, Prod.mk.injEq] at h
              obtain ⟨rfl, rfl, rfl⟩ := h
              obtain ⟨j1, j2⟩ := ih ys σ1 r2 σ2 tr2 V U1.good (by simpa using hl) h2 i1 (fun x h => hx x (by simp [h])) (fun y h => hy y (by simp [h]))
              exact ⟨j1, fun m hm => (List.mem_append.1 hm).elim (i2 m) (j2 m)⟩
  induction g with
  | zero =>
    have h0 : ∀ σ a b r σ' tr V, IsGood σ → uniF 0 σ a b = some (r, σ', tr) → RangeIn V σ → InV V a → InV V b → RangeIn V σ' ∧ ∀ m ∈ tr, m ∈ V := fun σ a b r σ' tr V hg h => by simp only [uniF] at h; cases h
    exact ⟨h0, list 0 h0⟩
  | succ g ih =>
    suffices hU : ∀ σ a b r σ' tr V, IsGood σ → uniF (g + 1) σ a b = some (r, σ', tr) → RangeIn V σ → InV V a → InV V b → RangeIn V σ' ∧ ∀ m ∈ tr, m ∈ V from ⟨hU, list _ hU⟩
    intro σ a b r σ' tr V hg h hr ha hb
    obtain ⟨_, ihL⟩ := ih
    obtain ⟨rk, B, G⟩ := hg.rs
    obtain ⟨fa, wa⟩ := G.wk a
    obtain ⟨fb, wb⟩ := G.wk b
    have va := wa.inV hr ha
    have vb := wb.inV hr hb
    have bn : ∀ n (t : Tm) r σ' tr, n ∈ V → InV V t → bnd σ n t = (r, σ', tr) → RangeIn V σ' ∧ ∀ m ∈ tr, m ∈ V := by
      intro n t r σ' tr hn ht h
      unfold bnd at h
      split at h <;> cases h
      · exact ⟨hr, fun _ h => absurd h (List.not_mem_nil)⟩
      · refine ⟨fun m u hu => ?_, fun m hm => by simp only [List.mem_cons, List.not_mem_nil, or_false] at hm; rw [hm]; exact hn⟩
        simp only [Sub.set] at hu
        split at hu
        · cases hu; exact ht
        · exact hr m u hu
    rw [uniF] at h
    generalize wk σ a = a at *
    generalize wk σ b = b at *
    split at h
    · simp only [Option.some.injEq, Prod.mk.injEq] at h
      obtain ⟨rfl, rfl, rfl⟩ := h
      exact ⟨hr, fun _ h => absurd h (List.not_mem_nil)⟩
    · split at h
      · rename_i hk
        exact bn _ _ _ _ _ (va _ (by rw [Tm.vl_k1 hk]; simp)) vb (Option.some.inj h)
      · rename_i hka
        split at h
        · rename_i hk
          exact bn _ _ _ _ _ (vb _ (by rw [Tm.vl_k1 hk]; simp)) va (Option.some.inj h)
        · rename_i hkb
          split at h
          · rename_i hh
            exact ihL a.ts b.ts σ r σ' tr V hg (headEq_iff.1 hh).2.2.2 h hr (fun x hx => va.kid hka hx) (fun y hy => vb.kid hkb hy)
          · simp only [Option.some.injEq, Prod.mk.injEq] at h
            obtain ⟨rfl, rfl, rfl⟩ := h
            exact ⟨hr, fun _ h => absurd h (List.not_mem_nil)⟩

def AllS (p : Tm → Prop) (σ : Sub) : Prop := ∀ n u, σ n = some u → p u
/-- What holds of all terms, and of their arguments, holds of what is bound. -/
theorem uni_all {p : Tm → Prop} (hp : ∀ t : Tm, t.k ≠ 1 → p t → ∀ x ∈ t.ts, p x) : ∀ (g : Nat), (∀ σ a b r σ' tr, IsGood σ → uniF g σ a b = some (r, σ', tr) → AllS p σ → p a → p b → AllS p σ') ∧
    ∀ xs ys σ r σ' tr, IsGood σ → xs.length = ys.length → unisF g σ xs ys = some (r, σ', tr) → AllS p σ → (∀ x ∈ xs, p x) → (∀ y ∈ ys, p y) → AllS p σ' := by
  intro g
  have list : ∀ g, (∀ σ a b r σ' tr, IsGood σ → uniF g σ a b = some (r, σ', tr) → AllS p σ → p a → p b → AllS p σ') →
      ∀ xs ys σ r σ' tr, IsGood σ → xs.length = ys.length → unisF g σ xs ys = some (r, σ', tr) → AllS p σ → (∀ x ∈ xs, p x) → (∀ y ∈ ys, p y) → AllS p σ' := by
    intro g ihU xs
    induction xs with
    | nil =>
      intro ys σ r σ' tr hg hl h hr _ _
      cases ys with
      | cons _ _ => simp at hl
      | nil =>
        simp only [unisF, Option.some.injEq, Prod.mk.injEq] at h
        obtain ⟨rfl, rfl, rfl⟩ := h
        exact hr
    | cons a xs ih =>
      intro ys σ r σ' tr hg hl h hr hx hy
      cases ys with
      | nil => simp at hl
      | cons b ys =>
        rw [unisF] at h
        cases h1 : uniF g σ a b with
        | none => rw [h1] at h; cases h
        | some p =>
          obtain ⟨r1, σ1, tr1⟩ := p
          have U1 := uniF_uni hg h1
          have i1 := ihU σ a b r1 σ1 tr1 hg h1 hr (hx a (by simp)) (hy b (by simp))
          rw [h1] at h
          cases r1 with
          | false =>
            simp only [Option.some.injEq, Prod.mk.injEq] at h
            obtain ⟨rfl, rfl, rfl⟩ := h
            exact i1
          | true =>
            simp only at h
            cases h2 : unisF g σ1 xs ys with
            | none => rw [h2] at h; cases h
            | some p2 =>
              obtain ⟨r2, σ2, tr2⟩ := p2
              rw [h2] at h
              simp only [Option.some.injEq, Prod.mk.injEq] at h
              obtain ⟨rfl, rfl, rfl⟩ := h
              have j1 := ih ys σ1 r2 σ2 tr2 U1.good (by simpa using hl) h2 i1 (fun x h => hx x (by simp [h])) (fun y h => hy y (by simp [h]))
              exact j1
  induction g with
  | zero =>
    have h0 : ∀ σ a b r σ' tr, IsGood σ → uniF 0 σ a b = some (r, σ', tr) → AllS p σ → p a → p b → AllS p σ' := fun σ a b r σ' tr hg h => by simp only [uniF] at h; cases h
    exact ⟨h0, list 0 h0⟩
  | succ g ih =>
    suffices hU : ∀ σ a b r σ' tr, IsGood σ → uniF (g + 1) σ a b = some (r, σ', tr) → AllS p σ → p a → p b → AllS p σ' from ⟨hU, list _ hU⟩
    intro σ a b r σ' tr hg h hr ha hb
    obtain ⟨_, ihL⟩ := ih
    obtain ⟨rk, B, G⟩ := hg.rs
    obtain ⟨fa, wa⟩ := G.wk a
    obtain ⟨fb, wb⟩ := G.wk b
    have va := wa.all hr ha
    have vb := wb.all hr hb
    have bn : ∀ n (t : Tm) r σ' tr, p t → bnd σ n t = (r, σ', tr) → AllS p σ' := by
      intro n t r σ' tr ht h
      unfold bnd at h
      split at h <;> cases h
      · exact hr
      · intro m u hu
        simp only [Sub.set] at hu
        split at hu
        · cases hu; exact ht
        · exact hr m u hu
    rw [uniF] at h
    generalize wk σ a = a at *
    generalize wk σ b = b at *
    split at h
    · simp only [Option.some.injEq, Prod.mk.injEq] at h
      obtain ⟨rfl, rfl, rfl⟩ := h
      exact hr
    · split at h
      · rename_i hk
        exact bn _ _ _ _ _ vb (Option.some.inj h)
      · rename_i hka
        split at h
        · rename_i hk
          exact bn _ _ _ _ _ va (Option.some.inj h)
        · rename_i hkb
          split at h
          · rename_i hh
            exact ihL a.ts b.ts σ r σ' tr hg (headEq_iff.1 hh).2.2.2 h hr (fun x hx => hp _ hka va x hx) (fun y hy => hp _ hkb vb y hy)
          · simp only [Option.some.injEq, Prod.mk.injEq] at h
            obtain ⟨rfl, rfl, rfl⟩ := h
            exact hr

theorem uniF_total (V : List Int) : ∀ (N M : Nat) (σ : Sub) (a b : Tm), IsGood σ → RangeIn V σ → InV V a → InV V b → unb σ V ≤ N → (a.mapv (rs σ)).nodes ≤ M → ∃ g x, uniF g σ a b = some x := by
  intro N
  induction N using Nat.strongRecOn with
  | _ N ihN =>
  intro M
  induction M using Nat.strongRecOn with
  | _ M ihM =>
  intro σ a b hg hr ha hb hN hM
  have list : ∀ (xs ys : List Tm) (σ1 : Sub), xs.length = ys.length → IsGood σ1 → RangeIn V σ1 → (σ1 = σ ∨ unb σ1 V < unb σ V) → (∀ x ∈ xs, InV V x ∧ (x.mapv (rs σ)).nodes < M) → (∀ y ∈ ys, InV V y) → ∃ g x, unisF g σ1 xs ys = some x := by
    intro xs
    induction xs with
    | nil =>
      intro ys σ1 hl _ _ _ _ _
      cases ys with
      | cons _ _ => simp at hl
      | nil => exact ⟨0, (true, σ1, []), by simp only [unisF]⟩
    | cons x xs ih =>
      intro ys σ1 hl hg1 hr1 hc hx hy
      cases ys with
      | nil => simp at hl
      | cons y ys =>
        have h1 : ∃ g p, uniF g σ1 x y = some p := by
          rcases hc with rfl | hlt
          · exact ihM _ (hx x (by simp)).2 σ1 x y hg1 hr1 (hx x (by simp)).1 (hy y (by simp)) hN (Nat.le_refl _)
          · exact ihN (unb σ1 V) (by omega) _ σ1 x y hg1 hr1 (hx x (by simp)).1 (hy y (by simp)) (Nat.le_refl _) (Nat.le_refl _)
        obtain ⟨g1, ⟨r1, σ2, tr1⟩, h1⟩ := h1
        have U1 := uniF_uni hg1 h1
        obtain ⟨i1, i2⟩ := (uni_inV g1).1 σ1 x y r1 σ2 tr1 V hg1 h1 hr1 (hx x (by simp)).1 (hy y (by simp))
        cases r1 with
        | false => exact ⟨g1, (false, σ2, tr1), by rw [unisF, h1]⟩
        | true =>
          have hc2 : σ2 = σ ∨ unb σ2 V < unb σ V := by
            cases htr : tr1 with
            | nil => rw [U1.same htr]; exact hc
            | cons m _ =>
              have := unb_lt (V := V) U1.keep U1.new (m := m) (by rw [htr]; simp) (i2 m (by rw [htr]; simp))
              rcases hc with rfl | hlt
              · exact .inr this
              · exact .inr (Nat.lt_trans this hlt)
          obtain ⟨g2, p2, h2⟩ := ih ys σ2 (by simpa using hl) U1.good i1 hc2 (fun z hz => hx z (by simp [hz])) (fun z hz => hy z (by simp [hz]))
          obtain ⟨r2, σ3, tr2⟩ := p2
          refine ⟨max g1 g2, (r2, σ3, tr1 ++ tr2), ?_⟩
          rw [unisF, uniF_le (Nat.le_max_left g1 g2) h1]
          simp only
          rw [unisF_le (Nat.le_max_right g1 g2) h2]
  obtain ⟨rk, B, G⟩ := hg.rs
  obtain ⟨fa, wa⟩ := G.wk a
  obtain ⟨fb, wb⟩ := G.wk b
  have va := wa.inV hr ha
  have vb := wb.inV hr hb
  have hma := wa.mapv G.isSol
  rw [← hma] at hM
  by_cases h1 : (wk σ a).k = 1 ∧ (wk σ b).k = 1 ∧ (wk σ a).n = (wk σ b).n
  · exact ⟨1, _, by rw [uniF, if_pos h1]⟩
  by_cases h2 : (wk σ a).k = 1
  · exact ⟨1, _, by rw [uniF, if_neg h1, if_pos h2]⟩
  by_cases h3 : (wk σ b).k = 1
  · exact ⟨1, _, by rw [uniF, if_neg h1, if_neg h2, if_pos h3]⟩
  by_cases h4 : headEq (wk σ a) (wk σ b) = true
  · have hkid : ∀ x ∈ (wk σ a).ts, InV V x ∧ (x.mapv (rs σ)).nodes < M := fun x hx => by
      refine ⟨va.kid h2 hx, ?_⟩
      rw [Tm.mapv_k _ h2, Tm.nodes_mk] at hM
      have := sumL_mem (f := Tm.nodes) (List.mem_map.2 ⟨x, hx, rfl⟩ : x.mapv (rs σ) ∈ (wk σ a).ts.map (Tm.mapv (rs σ)))
      omega
    obtain ⟨g, x, h⟩ := list (wk σ a).ts (wk σ b).ts σ (headEq_iff.1 h4).2.2.2 hg hr (.inl rfl) hkid (fun y hy => vb.kid h3 hy)
    exact ⟨g + 1, x, by rw [uniF, if_neg h1, if_neg h2, if_neg h3, if_pos h4]; exact h⟩
  · exact ⟨1, _, by rw [uniF, if_neg h1, if_neg h2, if_neg h3, if_neg h4]⟩
end Go.AW

/- A struct's list that grows in its memory. -/
namespace Go.AW
set_option linter.unusedSimpArgs false
/-- The struct in block c, with a list that grows in block b. -/
def kidS (S : Store) (c b : Nat) (hd : List AV) (l : List AV) : Store := accS (S.upd c (.cells (hd ++ [accV 4 b l]))) b l
theorem kidS_c {S : Store} {c b : Nat} {hd l : List AV} (hb : l ≠ [] → (S.upd c (.cells (hd ++ [accV 4 b l]))) b = none) : kidS S c b hd l c = some (.cells (hd ++ [accV 4 b l])) := by
  unfold kidS
  cases l with
  | nil => simp only [accS, Store.upd_same]
  | cons y l =>
    have h := hb (by simp)
    have hne : c ≠ b := fun e => by rw [← e, Store.upd_same] at h; cases h
    rw [accS_ne hne, Store.upd_same]
theorem kidS_set {S : Store} {c b b' : Nat} {hd l l' : List AV} (hb : l' ≠ [] → (S.upd c (.cells (hd ++ [accV 4 b l]))) b' = none) :
    (accS (S.upd c (.cells (hd ++ [accV 4 b l]))) b' l').upd c (.cells (hd ++ [accV 4 b' l'])) = kidS S c b' hd l' ∧ (l' ≠ [] → (S.upd c (.cells (hd ++ [accV 4 b' l']))) b' = none) ∧ accS (S.upd c (.cells (hd ++ [accV 4 b l]))) b' l' c = some (.cells (hd ++ [accV 4 b l])) := by
  have hne : l' ≠ [] → c ≠ b' := fun h e => by have := hb h; rw [← e, Store.upd_same] at this; cases this
  refine ⟨?_, fun h => ?_, ?_⟩
  · rw [accS_upd hne, Store.upd_upd]; rfl
  · have := hb h
    rw [Store.upd_ne _ _ (Ne.symm (hne h))] at this ⊢
    exact this
  · cases l' with
    | nil => simp only [accS, Store.upd_same]
    | cons y l => rw [accS_ne (hne (by simp)), Store.upd_same]
theorem kidS_ne {S : Store} {c b x : Nat} {hd l : List AV} (hb : l ≠ [] → (S.upd c (.cells (hd ++ [accV 4 b l]))) b = none) (hx : S x ≠ none) (hxc : x ≠ c) : kidS S c b hd l x = S x := by
  unfold kidS
  cases l with
  | nil => simp only [accS, Store.upd_ne _ _ hxc]
  | cons y l =>
    have h := hb (by simp)
    have hne : x ≠ b := fun e => by
      rw [← e, Store.upd_ne _ _ hxc] at h
      exact hx h
    rw [accS_ne hne, Store.upd_ne _ _ hxc]
theorem kidS_upd {S : Store} {c b x : Nat} {hd l : List AV} {o : AO} (hb : l ≠ [] → (S.upd c (.cells (hd ++ [accV 4 b l]))) b = none) (hx : S x ≠ none) (hxc : x ≠ c) : (kidS S c b hd l).upd x o = accS ((S.upd c (.cells (hd ++ [accV 4 b l]))).upd x o) b l ∧ (l ≠ [] → ((S.upd c (.cells (hd ++ [accV 4 b l]))).upd x o) b = none) := by
  have hne : l ≠ [] → x ≠ b := fun h e => by
    have := hb h
    rw [← e, Store.upd_ne _ _ hxc] at this
    exact hx this
  refine ⟨by unfold kidS; rw [accS_upd hne], fun h => by rw [Store.upd_ne _ _ (Ne.symm (hne h))]; exact hb h⟩
theorem kidS_beside {S : Store} {c b x : Nat} {hd l : List AV} {o : AO} (hb : l ≠ [] → (S.upd c (.cells (hd ++ [accV 4 b l]))) b = none) (hx : S x ≠ none) (hxc : x ≠ c) :
    (kidS S c b hd l).upd x o = kidS (S.upd x o) c b hd l ∧ (l ≠ [] → ((S.upd x o).upd c (.cells (hd ++ [accV 4 b l]))) b = none) := by
  have hne : l ≠ [] → x ≠ b := fun h e => by
    have := hb h
    rw [← e, Store.upd_ne _ _ hxc] at this
    exact hx this
  refine ⟨by unfold kidS; rw [accS_upd hne, Store.upd_comm _ _ _ (Ne.symm hxc)], fun h => ?_⟩
  have := hb h
  rw [Store.upd_comm _ _ _ hxc, Store.upd_ne _ _ (Ne.symm (hne h))]
  exact this
theorem kidS_gone {S T : Store} {c b : Nat} {hd l : List AV} (D : Drops (S.upd c (.cells (hd ++ [accV 4 b l]))) T) (hb : l ≠ [] → (S.upd c (.cells (hd ++ [accV 4 b l]))) b = none) : Drops (kidS S c b hd l) T :=
  D.accS fun h => (D b).1 (hb h)
theorem Store.upd_mid {st : Store} {b c : Nat} {a z a' : AO} (h : b ≠ c) : ((st.upd c a).upd b z).upd c a' = (st.upd b z).upd c a' := by rw [Store.upd_comm _ _ _ (Ne.symm h), Store.upd_upd]
theorem tm_widths (l : List Tm) : ∀ e ∈ l.map Tm.av, e.width = 4 := by intro e h; simp only [List.mem_map] at h; obtain ⟨t, _, rfl⟩ := h; exact Tm.av_width t
theorem tm_junk (l : List Tm) : ∀ e ∈ l.map Tm.av, e.isJunk = false := by intro e h; simp only [List.mem_map] at h; obtain ⟨t, _, rfl⟩ := h; exact Tm.av_junk t
end Go.AW
