
/- Goals: what the reference's and the program's functions return. -/
import Derived.Test.YtcookjmgjbhkiaaGs3
namespace Go.AW
open Go.Proofs.Try
set_option linter.unusedSimpArgs false
set_option maxRecDepth 100000

theorem c_l4Cut (k n : Int) (s : ByteArray) (ts : List Tm) (st : Store) : ACalls prog 90 [(Tm.mk k n s ts).av] st (fun r st' => r = .bool (decide (k = 3) && decide (s = ⟨#[33]⟩) && decide ((ts.length : Int) = 0)) ∧ st' = st) := by
  refine acalls_fit [] func90 ntmps90 rfl rfl (by kernel_rfl) (by decide +kernel) (by show 1 ≤ _; decide +kernel) ?_
  intro _
  simp only [Tm.av_mk]
  repeat' (first
    | (simp -implicitDefEqProofs only [*, evb0, evb1, evb2, evb3, evb4, evb5, evb6, ↓Int.cast_ofNat_Int, implies_true, ne_eq, isMut, aFn, List.contains, List.elem, aBox, aField, aLoad, sub, aNil, aPick, aExt, aFld, gd, noJunk, plainOp, aBuildSlice, aParts, seqParts, fitAll, List.range', ↓reduceIte, reduceCtorEq, Nat.reduceEqDiff, Nat.reduceAdd, Nat.reduceLeDiff, Nat.reduceMul, Nat.reduceLT, Nat.reduceBEq, Int.reduceEq, tI_2, zI_2, underlying2, tI_3, zI_3, underlying3, tI_4, zI_4, underlying4, tI_8, zI_8, fI_8_0, fI_8_1, fI_8_2, fI_8_3, bI_8, tI_9, zI_9, underlying9, tI_13, zI_13, fI_13_0, fI_13_1, bI_13, tI_14, zI_14, fI_14_0, fI_14_1, bI_14, tI_17, zI_17, tI_22, zI_22, eI_22, eB_22, eZ_22, underlying22, tI_30, zI_30, eI_30, eB_30, eZ_30, underlying30, tI_32, zI_32, fI_32_0, fI_32_1, fI_32_2, fI_32_3, bI_32, tI_33, zI_33, eI_33, eB_33, eZ_33, underlying33])
    | (refine opsG_split (fun h => ?_) (fun h => ?_))
    
    | (refine cond_split (fun h => ?_) (fun h => ?_)))
  all_goals simp only [*, List.length_map, Bool.not_true, Bool.not_false, Bool.true_and, Bool.false_and, Bool.and_false, Bool.and_true]

theorem c_isCut (k n : Int) (s : ByteArray) (ts : List Tm) (st : Store) : ACalls prog 79 [(Tm.mk k n s ts).av] st (fun r st' => r = .bool (decide (k = 3) && decide ((ts.length : Int) = 0) && decide (s = ⟨#[33]⟩)) ∧ st' = st) := by
  have h1 := c_isAtom k n s ts st
  rw [Tm.av_mk] at h1
  refine acalls_fit [] func79 ntmps79 rfl rfl (by kernel_rfl) (by decide +kernel) (by show 1 ≤ _; decide +kernel) ?_
  intro _
  simp only [Tm.av_mk]
  simp -implicitDefEqProofs only [evb0, evb1, evb2, evb3, evb4, evb5, evb6, ↓Int.cast_ofNat_Int, implies_true, ne_eq, isMut, aFn, List.contains, List.elem, aBox, aField, aLoad, sub, aNil, aPick, aExt, aFld, gd, noJunk, plainOp, aBuildSlice, aParts, seqParts, fitAll, List.range', ↓reduceIte, reduceCtorEq, Nat.reduceEqDiff, Nat.reduceAdd, Nat.reduceLeDiff, Nat.reduceMul, Nat.reduceLT, Nat.reduceBEq, Int.reduceEq, tI_2, zI_2, underlying2, tI_3, zI_3, underlying3, tI_4, zI_4, underlying4, tI_9, zI_9, underlying9, tI_10, zI_10, underlying10, tI_32, zI_32, fI_32_0, fI_32_1, fI_32_2, fI_32_3, bI_32, tI_33, zI_33, eI_33, eB_33, eZ_33, underlying33]
  refine h1.to ?_
  clear h1
  repeat' (first
    | (simp -implicitDefEqProofs only [*, evb0, evb1, evb2, evb3, evb4, evb5, evb6, ↓Int.cast_ofNat_Int, implies_true, ne_eq, isMut, aFn, List.contains, List.elem, aBox, aField, aLoad, sub, aNil, aPick, aExt, aFld, gd, noJunk, plainOp, aBuildSlice, aParts, seqParts, fitAll, List.range', ↓reduceIte, reduceCtorEq, Nat.reduceEqDiff, Nat.reduceAdd, Nat.reduceLeDiff, Nat.reduceMul, Nat.reduceLT, Nat.reduceBEq, Int.reduceEq, tI_2, zI_2, underlying2, tI_3, zI_3, underlying3, tI_4, zI_4, underlying4, tI_9, zI_9, underlying9, tI_10, zI_10, underlying10, tI_32, zI_32, fI_32_0, fI_32_1, fI_32_2, fI_32_3, bI_32, tI_33, zI_33, eI_33, eB_33, eZ_33, underlying33])
    | (refine opsG_split (fun h => ?_) (fun h => ?_))
    
    | (refine cond_split (fun h => ?_) (fun h => ?_)))
  all_goals simp_all

theorem c_isBuilt (k n : Int) (s : ByteArray) (ts : List Tm) (st : Store) : ACalls prog 78 [(Tm.mk k n s ts).av] st (fun r st' => r = .bool (decide (k = 3) && isBuiltin s (ts.length : Int)) ∧ st' = st) := by
  have h1 := c_impl_IsBuiltin s ts.length st
  refine acalls_fit [] func78 ntmps78 rfl rfl (by kernel_rfl) (by decide +kernel) (by show 1 ≤ _; decide +kernel) ?_
  intro _
  simp only [Tm.av_mk]
  simp -implicitDefEqProofs only [List.length_map, evb0, evb1, evb2, evb3, evb4, evb5, evb6, ↓Int.cast_ofNat_Int, implies_true, ne_eq, isMut, aFn, List.contains, List.elem, aBox, aField, aLoad, sub, aNil, aPick, aExt, aFld, gd, noJunk, plainOp, aBuildSlice, aParts, seqParts, fitAll, List.range', ↓reduceIte, reduceCtorEq, Nat.reduceEqDiff, Nat.reduceAdd, Nat.reduceLeDiff, Nat.reduceMul, Nat.reduceLT, Nat.reduceBEq, Int.reduceEq, tI_2, zI_2, underlying2, tI_3, zI_3, underlying3, tI_4, zI_4, underlying4, tI_8, zI_8, fI_8_0, fI_8_1, fI_8_2, fI_8_3, bI_8, tI_9, zI_9, underlying9, tI_10, zI_10, underlying10, tI_11, zI_11, underlying11, tI_12, zI_12, underlying12, tI_14, zI_14, fI_14_0, fI_14_1, bI_14, tI_30, zI_30, eI_30, eB_30, eZ_30, underlying30, tI_32, zI_32, fI_32_0, fI_32_1, fI_32_2, fI_32_3, bI_32]
  refine opsG_split (fun h => ?_) (fun h => ?_)
  · simp -implicitDefEqProofs only [h, List.length_map, evb0, evb1, evb2, evb3, evb4, evb5, evb6, ↓Int.cast_ofNat_Int, implies_true, ne_eq, isMut, aFn, List.contains, List.elem, aBox, aField, aLoad, sub, aNil, aPick, aExt, aFld, gd, noJunk, plainOp, aBuildSlice, aParts, seqParts, fitAll, List.range', ↓reduceIte, reduceCtorEq, Nat.reduceEqDiff, Nat.reduceAdd, Nat.reduceLeDiff, Nat.reduceMul, Nat.reduceLT, Nat.reduceBEq, Int.reduceEq, tI_2, zI_2, underlying2, tI_3, zI_3, underlying3, tI_4, zI_4, underlying4, tI_8, zI_8, fI_8_0, fI_8_1, fI_8_2, fI_8_3, bI_8, tI_9, zI_9, underlying9, tI_10, zI_10, underlying10, tI_11, zI_11, underlying11, tI_12, zI_12, underlying12, tI_14, zI_14, fI_14_0, fI_14_1, bI_14, tI_30, zI_30, eI_30, eB_30, eZ_30, underlying30, tI_32, zI_32, fI_32_0, fI_32_1, fI_32_2, fI_32_3, bI_32]
    refine h1.to ?_
    clear h1
    simp -implicitDefEqProofs only [h, evb0, evb1, evb2, evb3, evb4, evb5, evb6, ↓Int.cast_ofNat_Int, implies_true, ne_eq, isMut, aFn, List.contains, List.elem, aBox, aField, aLoad, sub, aNil, aPick, aExt, aFld, gd, noJunk, plainOp, aBuildSlice, aParts, seqParts, fitAll, List.range', ↓reduceIte, reduceCtorEq, Nat.reduceEqDiff, Nat.reduceAdd, Nat.reduceLeDiff, Nat.reduceMul, Nat.reduceLT, Nat.reduceBEq, Int.reduceEq, tI_2, zI_2, underlying2, tI_3, zI_3, underlying3, tI_4, zI_4, underlying4, tI_8, zI_8, fI_8_0, fI_8_1, fI_8_2, fI_8_3, bI_8, tI_9, zI_9, underlying9, tI_10, zI_10, underlying10, tI_11, zI_11, underlying11, tI_12, zI_12, underlying12, tI_14, zI_14, fI_14_0, fI_14_1, bI_14, tI_30, zI_30, eI_30, eB_30, eZ_30, underlying30, tI_32, zI_32, fI_32_0, fI_32_1, fI_32_2, fI_32_3, bI_32]
  · simp -implicitDefEqProofs only [h, evb0, evb1, evb2, evb3, evb4, evb5, evb6, ↓Int.cast_ofNat_Int, implies_true, ne_eq, isMut, aFn, List.contains, List.elem, aBox, aField, aLoad, sub, aNil, aPick, aExt, aFld, gd, noJunk, plainOp, aBuildSlice, aParts, seqParts, fitAll, List.range', ↓reduceIte, reduceCtorEq, Nat.reduceEqDiff, Nat.reduceAdd, Nat.reduceLeDiff, Nat.reduceMul, Nat.reduceLT, Nat.reduceBEq, Int.reduceEq, tI_2, zI_2, underlying2, tI_3, zI_3, underlying3, tI_4, zI_4, underlying4, tI_8, zI_8, fI_8_0, fI_8_1, fI_8_2, fI_8_3, bI_8, tI_9, zI_9, underlying9, tI_10, zI_10, underlying10, tI_11, zI_11, underlying11, tI_12, zI_12, underlying12, tI_14, zI_14, fI_14_0, fI_14_1, bI_14, tI_30, zI_30, eI_30, eB_30, eZ_30, underlying30, tI_32, zI_32, fI_32_0, fI_32_1, fI_32_2, fI_32_3, bI_32]
    simp at h
    simp [h]

def plainGoal (k : Int) (s : ByteArray) (len : Int) : Bool := decide (k = 3) && letters s && !isBuiltin s len && decide ((opLevel s : Int) = 0)

theorem c_isPlain (k n : Int) (s : ByteArray) (ts : List Tm) (st : Store) : ACalls prog 77 [(Tm.mk k n s ts).av] st (fun r st' => r = .bool (plainGoal k s (ts.length : Int)) ∧ st' = st) := by
  have h1 := c_isBuilt k n s ts st
  rw [Tm.av_mk] at h1
  have e : decide ((0 : Int) < (opLevel s : Int)) = !decide ((opLevel s : Int) = 0) := by
    by_cases h : opLevel s = 0
    · simp [h]
    · simp [h]; omega
  have e3 : ∀ b : Bool, k = 3 → (decide (k = 3) && b) = b := fun b h => by simp [h]
  refine acalls_fit [] func77 ntmps77 rfl rfl (by kernel_rfl) (by decide +kernel) (by show 1 ≤ _; decide +kernel) ?_
  intro _
  simp only [Tm.av_mk]
  repeat' (first
    | (simp -implicitDefEqProofs only [*, evb0, evb1, evb2, evb3, evb4, evb5, evb6, ↓Int.cast_ofNat_Int, implies_true, ne_eq, isMut, aFn, List.contains, List.elem, aBox, aField, aLoad, sub, aNil, aPick, aExt, aFld, gd, noJunk, plainOp, aBuildSlice, aParts, seqParts, fitAll, List.range', ↓reduceIte, reduceCtorEq, Nat.reduceEqDiff, Nat.reduceAdd, Nat.reduceLeDiff, Nat.reduceMul, Nat.reduceLT, Nat.reduceBEq, Int.reduceEq, tI_2, zI_2, underlying2, tI_3, zI_3, underlying3, tI_4, zI_4, underlying4, tI_8, zI_8, fI_8_0, fI_8_1, fI_8_2, fI_8_3, bI_8, tI_9, zI_9, underlying9, tI_13, zI_13, fI_13_0, fI_13_1, bI_13, tI_14, zI_14, fI_14_0, fI_14_1, bI_14, tI_18, zI_18, fI_18_0, bI_18, tI_19, zI_19, fI_19_0, bI_19, tI_22, zI_22, eI_22, eB_22, eZ_22, underlying22, tI_32, zI_32, fI_32_0, fI_32_1, fI_32_2, fI_32_3, bI_32])
    | (refine opsG_split (fun h => ?_) (fun h => ?_))
    | (refine (c_isLetters s st).to ?_) | (refine (c_isOp s st).to ?_) | (refine h1.to ?_)
    | (refine cond_split (fun h => ?_) (fun h => ?_)))
  all_goals (clear h1; simp_all [plainGoal])

theorem c_l4Plain (k n : Int) (s : ByteArray) (ts : List Tm) (st : Store) : ACalls prog 91 [(Tm.mk k n s ts).av] st (fun r st' => r = .bool (plainGoal k s (ts.length : Int)) ∧ st' = st) := by
  refine acalls_fit [] func91 ntmps91 rfl rfl (by kernel_rfl) (by decide +kernel) (by show 1 ≤ _; decide +kernel) ?_
  intro _
  simp only [Tm.av_mk]
  have hl : (ts.map Tm.av).length = ts.length := List.length_map _
  repeat' (first
    | (simp -implicitDefEqProofs only [*, evb0, evb1, evb2, evb3, evb4, evb5, evb6, ↓Int.cast_ofNat_Int, implies_true, ne_eq, isMut, aFn, List.contains, List.elem, aBox, aField, aLoad, sub, aNil, aPick, aExt, aFld, gd, noJunk, plainOp, aBuildSlice, aParts, seqParts, fitAll, List.range', ↓reduceIte, reduceCtorEq, Nat.reduceEqDiff, Nat.reduceAdd, Nat.reduceLeDiff, Nat.reduceMul, Nat.reduceLT, Nat.reduceBEq, Int.reduceEq, tI_2, zI_2, underlying2, tI_3, zI_3, underlying3, tI_4, zI_4, underlying4, tI_8, zI_8, fI_8_0, fI_8_1, fI_8_2, fI_8_3, bI_8, tI_9, zI_9, underlying9, tI_13, zI_13, fI_13_0, fI_13_1, bI_13, tI_15, zI_15, tI_16, zI_16, tI_17, zI_17, tI_22, zI_22, eI_22, eB_22, eZ_22, underlying22, tI_23, zI_23, fI_23_0, fI_23_1, fI_23_2, fI_23_3, bI_23, tI_26, zI_26, fI_26_0, fI_26_1, fI_26_2, bI_26, tI_27, zI_27, fI_27_0, fI_27_1, fI_27_2, bI_27, tI_30, zI_30, eI_30, eB_30, eZ_30, underlying30, tI_32, zI_32, fI_32_0, fI_32_1, fI_32_2, fI_32_3, bI_32])
    | (refine opsG_split (fun h => ?_) (fun h => ?_))
    | (refine (c_l1Word s st).to ?_) | (refine (c_spec_IsBuiltin s _ st).to ?_) | (refine (c_l2Level s st).to ?_)
    | (refine cond_split (fun h => ?_) (fun h => ?_)))
  all_goals simp_all [plainGoal]

def goalOk (k : Int) (s : ByteArray) (len : Int) : Bool := (decide (k = 3) && decide (s = ⟨#[33]⟩) && decide (len = 0)) || plainGoal k s len || (decide (k = 3) && isBuiltin s len)

theorem c_l4Goal (k n : Int) (s : ByteArray) (ts : List Tm) (st : Store) : ACalls prog 76 [(Tm.mk k n s ts).av] st (fun r st' => r = .bool (goalOk k s (ts.length : Int)) ∧ st' = st) := by
  have h1 := c_l4Cut k n s ts st
  have h2 := c_l4Plain k n s ts st
  rw [Tm.av_mk] at h1 h2
  refine acalls_fit [] func76 ntmps76 rfl rfl (by kernel_rfl) (by decide +kernel) (by show 1 ≤ _; decide +kernel) ?_
  intro _
  simp only [Tm.av_mk]
  have hl : (ts.map Tm.av).length = ts.length := List.length_map _
  unfold goalOk
  generalize (decide (k = 3) && decide (s = ⟨#[33]⟩) && decide ((ts.length : Int) = 0)) = z1 at *
  generalize plainGoal k s (ts.length : Int) = z2 at *
  repeat' (first
    | (simp -implicitDefEqProofs only [*, evb0, evb1, evb2, evb3, evb4, evb5, evb6, ↓Int.cast_ofNat_Int, implies_true, ne_eq, isMut, aFn, List.contains, List.elem, aBox, aField, aLoad, sub, aNil, aPick, aExt, aFld, gd, noJunk, plainOp, aBuildSlice, aParts, seqParts, fitAll, List.range', ↓reduceIte, reduceCtorEq, Nat.reduceEqDiff, Nat.reduceAdd, Nat.reduceLeDiff, Nat.reduceMul, Nat.reduceLT, Nat.reduceBEq, Int.reduceEq, tI_2, zI_2, underlying2, tI_3, zI_3, underlying3, tI_4, zI_4, underlying4, tI_6, zI_6, underlying6, tI_7, zI_7, fI_7_0, fI_7_1, fI_7_2, fI_7_3, bI_7, tI_9, zI_9, underlying9, tI_10, zI_10, underlying10, tI_15, zI_15, tI_17, zI_17, tI_18, zI_18, fI_18_0, bI_18, tI_19, zI_19, fI_19_0, bI_19, tI_22, zI_22, eI_22, eB_22, eZ_22, underlying22, tI_30, zI_30, eI_30, eB_30, eZ_30, underlying30, tI_32, zI_32, fI_32_0, fI_32_1, fI_32_2, fI_32_3, bI_32])
    | (refine opsG_split (fun h => ?_) (fun h => ?_))
    | (refine h1.to ?_) | (refine h2.to ?_) | (refine (c_spec_IsBuiltin s _ st).to ?_)
    | (refine cond_split (fun h => ?_) (fun h => ?_)))
  all_goals (clear h1 h2; simp_all)
end Go.AW
