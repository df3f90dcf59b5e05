
/- Names of signs: what the reference's and the program's functions return. -/
import Derived.Test.YtcookjmgjbhkiaaGs2
namespace Go.AW
open Go.Proofs.Try
set_option linter.unusedSimpArgs false
set_option maxRecDepth 100000

def signs : List ByteArray := [⟨#[43]⟩, ⟨#[45]⟩, ⟨#[42]⟩, ⟨#[47, 47]⟩, ⟨#[61]⟩, ⟨#[92, 61]⟩, ⟨#[61, 61]⟩, ⟨#[60]⟩, ⟨#[62]⟩, ⟨#[61, 60]⟩, ⟨#[62, 61]⟩, ⟨#[61, 58, 61]⟩, ⟨#[46]⟩, ⟨#[91, 93]⟩, ⟨#[33]⟩]

theorem c_symbols (st : Store) : ACalls prog 106 [] st (fun r st' => r = .fslice (signs.map .str) ∧ st' = st) := by
  refine acalls_fit [] func106 ntmps106 rfl rfl (by kernel_rfl) (by decide +kernel) (by show 0 ≤ _; decide +kernel) ?_
  intro _
  simp -implicitDefEqProofs only [signs, evb0, evb1, evb2, evb3, evb4, evb5, evb6, ↓Int.cast_ofNat_Int, implies_true, ne_eq, isMut, aFn, List.contains, List.elem, aBox, aField, aLoad, sub, aNil, aPick, aExt, aFld, gd, noJunk, plainOp, aBuildSlice, aParts, seqParts, fitAll, List.range', ↓reduceIte, reduceCtorEq, Nat.reduceEqDiff, Nat.reduceAdd, Nat.reduceLeDiff, Nat.reduceMul, Nat.reduceLT, Nat.reduceBEq, Int.reduceEq, tI_2, zI_2, underlying2, tI_3, zI_3, underlying3, tI_4, zI_4, underlying4, tI_5, zI_5, underlying5, tI_6, zI_6, underlying6, tI_7, zI_7, fI_7_0, fI_7_1, fI_7_2, fI_7_3, bI_7, tI_8, zI_8, fI_8_0, fI_8_1, fI_8_2, fI_8_3, bI_8, tI_9, zI_9, underlying9, tI_10, zI_10, underlying10, tI_11, zI_11, underlying11, tI_12, zI_12, underlying12, tI_13, zI_13, fI_13_0, fI_13_1, bI_13, tI_14, zI_14, fI_14_0, fI_14_1, bI_14, tI_15, zI_15, tI_33, zI_33, eI_33, eB_33, eZ_33, underlying33, tI_46, zI_46, fI_46_0, bI_46, tI_47, zI_47, fI_47_0, bI_47, tI_111, zI_111, eI_111, eB_111, eZ_111, underlying111]

theorem c_l1Signs (st : Store) : ACalls prog 108 [] st (fun r st' => r = .fslice (signs.map .str) ∧ st' = st) := by
  refine acalls_fit [] func108 ntmps108 rfl rfl (by kernel_rfl) (by decide +kernel) (by show 0 ≤ _; decide +kernel) ?_
  intro _
  simp -implicitDefEqProofs only [signs, evb0, evb1, evb2, evb3, evb4, evb5, evb6, ↓Int.cast_ofNat_Int, implies_true, ne_eq, isMut, aFn, List.contains, List.elem, aBox, aField, aLoad, sub, aNil, aPick, aExt, aFld, gd, noJunk, plainOp, aBuildSlice, aParts, seqParts, fitAll, List.range', ↓reduceIte, reduceCtorEq, Nat.reduceEqDiff, Nat.reduceAdd, Nat.reduceLeDiff, Nat.reduceMul, Nat.reduceLT, Nat.reduceBEq, Int.reduceEq, tI_2, zI_2, underlying2, tI_3, zI_3, underlying3, tI_4, zI_4, underlying4, tI_5, zI_5, underlying5, tI_6, zI_6, underlying6, tI_7, zI_7, fI_7_0, fI_7_1, fI_7_2, fI_7_3, bI_7, tI_8, zI_8, fI_8_0, fI_8_1, fI_8_2, fI_8_3, bI_8, tI_9, zI_9, underlying9, tI_10, zI_10, underlying10, tI_11, zI_11, underlying11, tI_12, zI_12, underlying12, tI_13, zI_13, fI_13_0, fI_13_1, bI_13, tI_14, zI_14, fI_14_0, fI_14_1, bI_14, tI_15, zI_15, tI_33, zI_33, eI_33, eB_33, eZ_33, underlying33, tI_46, zI_46, fI_46_0, bI_46, tI_47, zI_47, fI_47_0, bI_47, tI_111, zI_111, eI_111, eB_111, eZ_111, underlying111]

theorem c_l1Has (l : List ByteArray) (s : ByteArray) (st : Store) : ACalls prog 107 [.slice (l.map .str), .str s] st (fun r st' => r = .bool (l.any fun x => decide (x = s)) ∧ st' = st) := by
  refine acalls_fit [] func107 ntmps107 rfl rfl (by kernel_rfl) (by decide +kernel) (by show 2 ≤ _; decide +kernel) ?_
  simp only [fitsL, AV.fits, and_true, List.length_map]
  intro ⟨⟨hl, _⟩, _⟩
  simp -implicitDefEqProofs only [evb0, evb1, evb2, evb3, evb4, evb5, evb6, ↓Int.cast_ofNat_Int, implies_true, ne_eq, isMut, aFn, List.contains, List.elem, aBox, aField, aLoad, sub, aNil, aPick, aExt, aFld, gd, noJunk, plainOp, aBuildSlice, aParts, seqParts, fitAll, List.range', ↓reduceIte, reduceCtorEq, Nat.reduceEqDiff, Nat.reduceAdd, Nat.reduceLeDiff, Nat.reduceMul, Nat.reduceLT, Nat.reduceBEq, Int.reduceEq, tI_2, zI_2, underlying2, tI_3, zI_3, underlying3, tI_4, zI_4, underlying4, tI_5, zI_5, underlying5, tI_6, zI_6, underlying6, tI_7, zI_7, fI_7_0, fI_7_1, fI_7_2, fI_7_3, bI_7, tI_8, zI_8, fI_8_0, fI_8_1, fI_8_2, fI_8_3, bI_8, tI_9, zI_9, underlying9, tI_12, zI_12, underlying12, tI_17, zI_17, tI_18, zI_18, fI_18_0, bI_18, tI_111, zI_111, eI_111, eB_111, eZ_111, underlying111]
  refine arun_loopL (α := Nat) [] (fun i => i ≤ l.length ∧ ∀ (j : Nat) x, j < i → l[j]? = some x → decide (x = s) = false)
    (fun i => [(0, .slice (l.map .str)), (1, .str s), (5, .int .i64 i)]) (fun _ => st) (fun i => l.length - i) (by decide +kernel)
    ⟨0, ⟨by omega, by intro j x h; omega⟩, LessL.mk (by simp -implicitDefEqProofs only [evb0, evb1, evb2, evb3, evb4, evb5, evb6, ↓Int.cast_ofNat_Int, implies_true, ne_eq, isMut, aFn, List.contains, List.elem, aBox, aField, aLoad, sub, aNil, aPick, aExt, aFld, gd, noJunk, plainOp, aBuildSlice, aParts, seqParts, fitAll, List.range', ↓reduceIte, reduceCtorEq, Nat.reduceEqDiff, Nat.reduceAdd, Nat.reduceLeDiff, Nat.reduceMul, Nat.reduceLT, Nat.reduceBEq, Int.reduceEq, tI_2, zI_2, underlying2, tI_3, zI_3, underlying3, tI_4, zI_4, underlying4, tI_5, zI_5, underlying5, tI_6, zI_6, underlying6, tI_7, zI_7, fI_7_0, fI_7_1, fI_7_2, fI_7_3, bI_7, tI_8, zI_8, fI_8_0, fI_8_1, fI_8_2, fI_8_3, bI_8, tI_9, zI_9, underlying9, tI_12, zI_12, underlying12, tI_17, zI_17, tI_18, zI_18, fI_18_0, bI_18, tI_111, zI_111, eI_111, eB_111, eZ_111, underlying111])⟩ ?_
  intro i ⟨hi, hall⟩
  simp -implicitDefEqProofs only [List.length_map, evb0, evb1, evb2, evb3, evb4, evb5, evb6, ↓Int.cast_ofNat_Int, implies_true, ne_eq, isMut, aFn, List.contains, List.elem, aBox, aField, aLoad, sub, aNil, aPick, aExt, aFld, gd, noJunk, plainOp, aBuildSlice, aParts, seqParts, fitAll, List.range', ↓reduceIte, reduceCtorEq, Nat.reduceEqDiff, Nat.reduceAdd, Nat.reduceLeDiff, Nat.reduceMul, Nat.reduceLT, Nat.reduceBEq, Int.reduceEq, tI_2, zI_2, underlying2, tI_3, zI_3, underlying3, tI_4, zI_4, underlying4, tI_5, zI_5, underlying5, tI_6, zI_6, underlying6, tI_7, zI_7, fI_7_0, fI_7_1, fI_7_2, fI_7_3, bI_7, tI_8, zI_8, fI_8_0, fI_8_1, fI_8_2, fI_8_3, bI_8, tI_9, zI_9, underlying9, tI_12, zI_12, underlying12, tI_17, zI_17, tI_18, zI_18, fI_18_0, bI_18, tI_111, zI_111, eI_111, eB_111, eZ_111, underlying111]
  refine ⟨fun h5 => ?_, fun h5 => ?_⟩
  case refine_2 =>
    simp -implicitDefEqProofs only [evb0, evb1, evb2, evb3, evb4, evb5, evb6, ↓Int.cast_ofNat_Int, implies_true, ne_eq, isMut, aFn, List.contains, List.elem, aBox, aField, aLoad, sub, aNil, aPick, aExt, aFld, gd, noJunk, plainOp, aBuildSlice, aParts, seqParts, fitAll, List.range', ↓reduceIte, reduceCtorEq, Nat.reduceEqDiff, Nat.reduceAdd, Nat.reduceLeDiff, Nat.reduceMul, Nat.reduceLT, Nat.reduceBEq, Int.reduceEq, tI_2, zI_2, underlying2, tI_3, zI_3, underlying3, tI_4, zI_4, underlying4, tI_5, zI_5, underlying5, tI_6, zI_6, underlying6, tI_7, zI_7, fI_7_0, fI_7_1, fI_7_2, fI_7_3, bI_7, tI_8, zI_8, fI_8_0, fI_8_1, fI_8_2, fI_8_3, bI_8, tI_9, zI_9, underlying9, tI_12, zI_12, underlying12, tI_17, zI_17, tI_18, zI_18, fI_18_0, bI_18, tI_111, zI_111, eI_111, eB_111, eZ_111, underlying111]
    simp only [decide_eq_false_iff_not, Int.ofNat_lt] at h5
    have : (l.any fun x => decide (x = s)) = false := by
      rw [List.any_eq_false]
      intro x hx
      obtain ⟨j, hj⟩ := List.getElem?_of_mem hx
      simp [hall j x (by have := (List.getElem?_eq_some_iff.1 hj).1; omega) hj]
    rw [this]
  simp only [decide_eq_true_eq, Int.ofNat_lt] at h5
  obtain ⟨x, hx⟩ : ∃ x, l[i]? = some x := ⟨_, List.getElem?_eq_getElem h5⟩
  simp -implicitDefEqProofs only [ev_at (av := AV.str) eI_111 hx rfl, evb0, evb1, evb2, evb3, evb4, evb5, evb6, ↓Int.cast_ofNat_Int, implies_true, ne_eq, isMut, aFn, List.contains, List.elem, aBox, aField, aLoad, sub, aNil, aPick, aExt, aFld, gd, noJunk, plainOp, aBuildSlice, aParts, seqParts, fitAll, List.range', ↓reduceIte, reduceCtorEq, Nat.reduceEqDiff, Nat.reduceAdd, Nat.reduceLeDiff, Nat.reduceMul, Nat.reduceLT, Nat.reduceBEq, Int.reduceEq, tI_2, zI_2, underlying2, tI_3, zI_3, underlying3, tI_4, zI_4, underlying4, tI_5, zI_5, underlying5, tI_6, zI_6, underlying6, tI_7, zI_7, fI_7_0, fI_7_1, fI_7_2, fI_7_3, bI_7, tI_8, zI_8, fI_8_0, fI_8_1, fI_8_2, fI_8_3, bI_8, tI_9, zI_9, underlying9, tI_12, zI_12, underlying12, tI_17, zI_17, tI_18, zI_18, fI_18_0, bI_18, tI_111, zI_111, eI_111, eB_111, eZ_111, underlying111]
  refine ⟨fun h6 => ?_, fun h6 => ?_⟩
  · simp -implicitDefEqProofs only [evb0, evb1, evb2, evb3, evb4, evb5, evb6, ↓Int.cast_ofNat_Int, implies_true, ne_eq, isMut, aFn, List.contains, List.elem, aBox, aField, aLoad, sub, aNil, aPick, aExt, aFld, gd, noJunk, plainOp, aBuildSlice, aParts, seqParts, fitAll, List.range', ↓reduceIte, reduceCtorEq, Nat.reduceEqDiff, Nat.reduceAdd, Nat.reduceLeDiff, Nat.reduceMul, Nat.reduceLT, Nat.reduceBEq, Int.reduceEq, tI_2, zI_2, underlying2, tI_3, zI_3, underlying3, tI_4, zI_4, underlying4, tI_5, zI_5, underlying5, tI_6, zI_6, underlying6, tI_7, zI_7, fI_7_0, fI_7_1, fI_7_2, fI_7_3, bI_7, tI_8, zI_8, fI_8_0, fI_8_1, fI_8_2, fI_8_3, bI_8, tI_9, zI_9, underlying9, tI_12, zI_12, underlying12, tI_17, zI_17, tI_18, zI_18, fI_18_0, bI_18, tI_111, zI_111, eI_111, eB_111, eZ_111, underlying111]
    have : (l.any fun x => decide (x = s)) = true := by
      rw [List.any_eq_true]
      exact ⟨x, List.mem_of_getElem? hx, h6⟩
    rw [this]
  simp -implicitDefEqProofs only [evb0, evb1, evb2, evb3, evb4, evb5, evb6, ↓Int.cast_ofNat_Int, implies_true, ne_eq, isMut, aFn, List.contains, List.elem, aBox, aField, aLoad, sub, aNil, aPick, aExt, aFld, gd, noJunk, plainOp, aBuildSlice, aParts, seqParts, fitAll, List.range', ↓reduceIte, reduceCtorEq, Nat.reduceEqDiff, Nat.reduceAdd, Nat.reduceLeDiff, Nat.reduceMul, Nat.reduceLT, Nat.reduceBEq, Int.reduceEq, tI_2, zI_2, underlying2, tI_3, zI_3, underlying3, tI_4, zI_4, underlying4, tI_5, zI_5, underlying5, tI_6, zI_6, underlying6, tI_7, zI_7, fI_7_0, fI_7_1, fI_7_2, fI_7_3, bI_7, tI_8, zI_8, fI_8_0, fI_8_1, fI_8_2, fI_8_3, bI_8, tI_9, zI_9, underlying9, tI_12, zI_12, underlying12, tI_17, zI_17, tI_18, zI_18, fI_18_0, bI_18, tI_111, zI_111, eI_111, eB_111, eZ_111, underlying111]
  refine ⟨i + 1, by omega, ⟨by omega, fun j u hj hu => ?_⟩, LessL.mk ?_⟩
  · rcases Nat.lt_or_ge j i with h8 | h8
    · exact hall j u h8 hu
    · obtain rfl : j = i := by omega
      rw [hx] at hu; cases hu
      exact h6
  · have := wrap64 (n := (i : Int) + 1) (by omega) (by omega)
    simp -implicitDefEqProofs only [this, evb0, evb1, evb2, evb3, evb4, evb5, evb6, ↓Int.cast_ofNat_Int, implies_true, ne_eq, isMut, aFn, List.contains, List.elem, aBox, aField, aLoad, sub, aNil, aPick, aExt, aFld, gd, noJunk, plainOp, aBuildSlice, aParts, seqParts, fitAll, List.range', ↓reduceIte, reduceCtorEq, Nat.reduceEqDiff, Nat.reduceAdd, Nat.reduceLeDiff, Nat.reduceMul, Nat.reduceLT, Nat.reduceBEq, Int.reduceEq, tI_2, zI_2, underlying2, tI_3, zI_3, underlying3, tI_4, zI_4, underlying4, tI_5, zI_5, underlying5, tI_6, zI_6, underlying6, tI_7, zI_7, fI_7_0, fI_7_1, fI_7_2, fI_7_3, bI_7, tI_8, zI_8, fI_8_0, fI_8_1, fI_8_2, fI_8_3, bI_8, tI_9, zI_9, underlying9, tI_12, zI_12, underlying12, tI_17, zI_17, tI_18, zI_18, fI_18_0, bI_18, tI_111, zI_111, eI_111, eB_111, eZ_111, underlying111]
theorem c_IndexS (l : List ByteArray) (s : ByteArray) (st : Store) : ACalls prog 109 [.slice (l.map .str), .str s] st (fun r st' => (∃ k : Int, r = .int .i64 k ∧ decide (0 ≤ k) = l.any fun x => decide (s = x)) ∧ st' = st) := by
  refine acalls_fit [] func109 ntmps109 rfl rfl (by kernel_rfl) (by decide +kernel) (by show 2 ≤ _; decide +kernel) ?_
  simp only [fitsL, AV.fits, and_true, List.length_map]
  intro ⟨⟨hl, _⟩, _⟩
  simp -implicitDefEqProofs only [List.length_map, evb0, evb1, evb2, evb3, evb4, evb5, evb6, ↓Int.cast_ofNat_Int, implies_true, ne_eq, isMut, aFn, List.contains, List.elem, aBox, aField, aLoad, sub, aNil, aPick, aExt, aFld, gd, noJunk, plainOp, aBuildSlice, aParts, seqParts, fitAll, List.range', ↓reduceIte, reduceCtorEq, Nat.reduceEqDiff, Nat.reduceAdd, Nat.reduceLeDiff, Nat.reduceMul, Nat.reduceLT, Nat.reduceBEq, Int.reduceEq, tI_2, zI_2, underlying2, tI_3, zI_3, underlying3, tI_4, zI_4, underlying4, tI_5, zI_5, underlying5, tI_6, zI_6, underlying6, tI_7, zI_7, fI_7_0, fI_7_1, fI_7_2, fI_7_3, bI_7, tI_8, zI_8, fI_8_0, fI_8_1, fI_8_2, fI_8_3, bI_8, tI_9, zI_9, underlying9, tI_18, zI_18, fI_18_0, bI_18, tI_19, zI_19, fI_19_0, bI_19, tI_97, zI_97, eI_97, eB_97, eZ_97, underlying97, tI_111, zI_111, eI_111, eB_111, eZ_111, underlying111]
  refine arun_loopL (α := Nat) [] (fun i => i ≤ l.length ∧ ∀ (j : Nat) x, j < i → l[j]? = some x → decide (s = x) = false)
    (fun i => [(0, .slice (l.map .str)), (1, .str s), (7, .int .i64 l.length), (8, .int .i64 i)]) (fun _ => st) (fun i => l.length - i) (by decide +kernel)
    ⟨0, ⟨by omega, by intro j x h; omega⟩, LessL.mk (by simp -implicitDefEqProofs only [evb0, evb1, evb2, evb3, evb4, evb5, evb6, ↓Int.cast_ofNat_Int, implies_true, ne_eq, isMut, aFn, List.contains, List.elem, aBox, aField, aLoad, sub, aNil, aPick, aExt, aFld, gd, noJunk, plainOp, aBuildSlice, aParts, seqParts, fitAll, List.range', ↓reduceIte, reduceCtorEq, Nat.reduceEqDiff, Nat.reduceAdd, Nat.reduceLeDiff, Nat.reduceMul, Nat.reduceLT, Nat.reduceBEq, Int.reduceEq, tI_2, zI_2, underlying2, tI_3, zI_3, underlying3, tI_4, zI_4, underlying4, tI_5, zI_5, underlying5, tI_6, zI_6, underlying6, tI_7, zI_7, fI_7_0, fI_7_1, fI_7_2, fI_7_3, bI_7, tI_8, zI_8, fI_8_0, fI_8_1, fI_8_2, fI_8_3, bI_8, tI_9, zI_9, underlying9, tI_18, zI_18, fI_18_0, bI_18, tI_19, zI_19, fI_19_0, bI_19, tI_97, zI_97, eI_97, eB_97, eZ_97, underlying97, tI_111, zI_111, eI_111, eB_111, eZ_111, underlying111])⟩ ?_
  intro i ⟨hi, hall⟩
  simp -implicitDefEqProofs only [List.length_map, evb0, evb1, evb2, evb3, evb4, evb5, evb6, ↓Int.cast_ofNat_Int, implies_true, ne_eq, isMut, aFn, List.contains, List.elem, aBox, aField, aLoad, sub, aNil, aPick, aExt, aFld, gd, noJunk, plainOp, aBuildSlice, aParts, seqParts, fitAll, List.range', ↓reduceIte, reduceCtorEq, Nat.reduceEqDiff, Nat.reduceAdd, Nat.reduceLeDiff, Nat.reduceMul, Nat.reduceLT, Nat.reduceBEq, Int.reduceEq, tI_2, zI_2, underlying2, tI_3, zI_3, underlying3, tI_4, zI_4, underlying4, tI_5, zI_5, underlying5, tI_6, zI_6, underlying6, tI_7, zI_7, fI_7_0, fI_7_1, fI_7_2, fI_7_3, bI_7, tI_8, zI_8, fI_8_0, fI_8_1, fI_8_2, fI_8_3, bI_8, tI_9, zI_9, underlying9, tI_18, zI_18, fI_18_0, bI_18, tI_19, zI_19, fI_19_0, bI_19, tI_97, zI_97, eI_97, eB_97, eZ_97, underlying97, tI_111, zI_111, eI_111, eB_111, eZ_111, underlying111]
  refine ⟨fun h5 => ?_, fun h5 => ?_⟩
  case refine_2 =>
    simp -implicitDefEqProofs only [evb0, evb1, evb2, evb3, evb4, evb5, evb6, ↓Int.cast_ofNat_Int, implies_true, ne_eq, isMut, aFn, List.contains, List.elem, aBox, aField, aLoad, sub, aNil, aPick, aExt, aFld, gd, noJunk, plainOp, aBuildSlice, aParts, seqParts, fitAll, List.range', ↓reduceIte, reduceCtorEq, Nat.reduceEqDiff, Nat.reduceAdd, Nat.reduceLeDiff, Nat.reduceMul, Nat.reduceLT, Nat.reduceBEq, Int.reduceEq, tI_2, zI_2, underlying2, tI_3, zI_3, underlying3, tI_4, zI_4, underlying4, tI_5, zI_5, underlying5, tI_6, zI_6, underlying6, tI_7, zI_7, fI_7_0, fI_7_1, fI_7_2, fI_7_3, bI_7, tI_8, zI_8, fI_8_0, fI_8_1, fI_8_2, fI_8_3, bI_8, tI_9, zI_9, underlying9, tI_18, zI_18, fI_18_0, bI_18, tI_19, zI_19, fI_19_0, bI_19, tI_97, zI_97, eI_97, eB_97, eZ_97, underlying97, tI_111, zI_111, eI_111, eB_111, eZ_111, underlying111]
    simp only [decide_eq_false_iff_not, Int.ofNat_lt] at h5
    have : (l.any fun x => decide (s = x)) = false := by
      rw [List.any_eq_false]
      intro x hx
      obtain ⟨j, hj⟩ := List.getElem?_of_mem hx
      simp [hall j x (by have := (List.getElem?_eq_some_iff.1 hj).1; omega) hj]
    rw [this]
    exact ⟨_, rfl, rfl⟩
  simp only [decide_eq_true_eq, Int.ofNat_lt] at h5
  obtain ⟨x, hx⟩ : ∃ x, l[i]? = some x := ⟨_, List.getElem?_eq_getElem h5⟩
  simp -implicitDefEqProofs only [ev_at (av := AV.str) eI_111 hx rfl, evb0, evb1, evb2, evb3, evb4, evb5, evb6, ↓Int.cast_ofNat_Int, implies_true, ne_eq, isMut, aFn, List.contains, List.elem, aBox, aField, aLoad, sub, aNil, aPick, aExt, aFld, gd, noJunk, plainOp, aBuildSlice, aParts, seqParts, fitAll, List.range', ↓reduceIte, reduceCtorEq, Nat.reduceEqDiff, Nat.reduceAdd, Nat.reduceLeDiff, Nat.reduceMul, Nat.reduceLT, Nat.reduceBEq, Int.reduceEq, tI_2, zI_2, underlying2, tI_3, zI_3, underlying3, tI_4, zI_4, underlying4, tI_5, zI_5, underlying5, tI_6, zI_6, underlying6, tI_7, zI_7, fI_7_0, fI_7_1, fI_7_2, fI_7_3, bI_7, tI_8, zI_8, fI_8_0, fI_8_1, fI_8_2, fI_8_3, bI_8, tI_9, zI_9, underlying9, tI_18, zI_18, fI_18_0, bI_18, tI_19, zI_19, fI_19_0, bI_19, tI_97, zI_97, eI_97, eB_97, eZ_97, underlying97, tI_111, zI_111, eI_111, eB_111, eZ_111, underlying111]
  refine ⟨fun h6 => ?_, fun h6 => ?_⟩
  · simp -implicitDefEqProofs only [evb0, evb1, evb2, evb3, evb4, evb5, evb6, ↓Int.cast_ofNat_Int, implies_true, ne_eq, isMut, aFn, List.contains, List.elem, aBox, aField, aLoad, sub, aNil, aPick, aExt, aFld, gd, noJunk, plainOp, aBuildSlice, aParts, seqParts, fitAll, List.range', ↓reduceIte, reduceCtorEq, Nat.reduceEqDiff, Nat.reduceAdd, Nat.reduceLeDiff, Nat.reduceMul, Nat.reduceLT, Nat.reduceBEq, Int.reduceEq, tI_2, zI_2, underlying2, tI_3, zI_3, underlying3, tI_4, zI_4, underlying4, tI_5, zI_5, underlying5, tI_6, zI_6, underlying6, tI_7, zI_7, fI_7_0, fI_7_1, fI_7_2, fI_7_3, bI_7, tI_8, zI_8, fI_8_0, fI_8_1, fI_8_2, fI_8_3, bI_8, tI_9, zI_9, underlying9, tI_18, zI_18, fI_18_0, bI_18, tI_19, zI_19, fI_19_0, bI_19, tI_97, zI_97, eI_97, eB_97, eZ_97, underlying97, tI_111, zI_111, eI_111, eB_111, eZ_111, underlying111]
    have : (l.any fun x => decide (s = x)) = true := by
      rw [List.any_eq_true]
      exact ⟨x, List.mem_of_getElem? hx, h6⟩
    rw [this]
    exact ⟨_, rfl, by simp⟩
  simp -implicitDefEqProofs only [evb0, evb1, evb2, evb3, evb4, evb5, evb6, ↓Int.cast_ofNat_Int, implies_true, ne_eq, isMut, aFn, List.contains, List.elem, aBox, aField, aLoad, sub, aNil, aPick, aExt, aFld, gd, noJunk, plainOp, aBuildSlice, aParts, seqParts, fitAll, List.range', ↓reduceIte, reduceCtorEq, Nat.reduceEqDiff, Nat.reduceAdd, Nat.reduceLeDiff, Nat.reduceMul, Nat.reduceLT, Nat.reduceBEq, Int.reduceEq, tI_2, zI_2, underlying2, tI_3, zI_3, underlying3, tI_4, zI_4, underlying4, tI_5, zI_5, underlying5, tI_6, zI_6, underlying6, tI_7, zI_7, fI_7_0, fI_7_1, fI_7_2, fI_7_3, bI_7, tI_8, zI_8, fI_8_0, fI_8_1, fI_8_2, fI_8_3, bI_8, tI_9, zI_9, underlying9, tI_18, zI_18, fI_18_0, bI_18, tI_19, zI_19, fI_19_0, bI_19, tI_97, zI_97, eI_97, eB_97, eZ_97, underlying97, tI_111, zI_111, eI_111, eB_111, eZ_111, underlying111]
  refine ⟨i + 1, by omega, ⟨by omega, fun j u hj hu => ?_⟩, LessL.mk ?_⟩
  · rcases Nat.lt_or_ge j i with h8 | h8
    · exact hall j u h8 hu
    · obtain rfl : j = i := by omega
      rw [hx] at hu; cases hu
      exact h6
  · have := wrap64 (n := (i : Int) + 1) (by omega) (by omega)
    simp -implicitDefEqProofs only [this, evb0, evb1, evb2, evb3, evb4, evb5, evb6, ↓Int.cast_ofNat_Int, implies_true, ne_eq, isMut, aFn, List.contains, List.elem, aBox, aField, aLoad, sub, aNil, aPick, aExt, aFld, gd, noJunk, plainOp, aBuildSlice, aParts, seqParts, fitAll, List.range', ↓reduceIte, reduceCtorEq, Nat.reduceEqDiff, Nat.reduceAdd, Nat.reduceLeDiff, Nat.reduceMul, Nat.reduceLT, Nat.reduceBEq, Int.reduceEq, tI_2, zI_2, underlying2, tI_3, zI_3, underlying3, tI_4, zI_4, underlying4, tI_5, zI_5, underlying5, tI_6, zI_6, underlying6, tI_7, zI_7, fI_7_0, fI_7_1, fI_7_2, fI_7_3, bI_7, tI_8, zI_8, fI_8_0, fI_8_1, fI_8_2, fI_8_3, bI_8, tI_9, zI_9, underlying9, tI_18, zI_18, fI_18_0, bI_18, tI_19, zI_19, fI_19_0, bI_19, tI_97, zI_97, eI_97, eB_97, eZ_97, underlying97, tI_111, zI_111, eI_111, eB_111, eZ_111, underlying111]

theorem c_ContainsS (l : List ByteArray) (s : ByteArray) (st : Store) : ACalls prog 105 [.slice (l.map .str), .str s] st (fun r st' => r = .bool (l.any fun x => decide (s = x)) ∧ st' = st) := by
  refine acalls_fit [] func105 ntmps105 rfl rfl (by kernel_rfl) (by decide +kernel) (by show 2 ≤ _; decide +kernel) ?_
  intro _
  simp -implicitDefEqProofs only [evb0, evb1, evb2, evb3, evb4, evb5, evb6, ↓Int.cast_ofNat_Int, implies_true, ne_eq, isMut, aFn, List.contains, List.elem, aBox, aField, aLoad, sub, aNil, aPick, aExt, aFld, gd, noJunk, plainOp, aBuildSlice, aParts, seqParts, fitAll, List.range', ↓reduceIte, reduceCtorEq, Nat.reduceEqDiff, Nat.reduceAdd, Nat.reduceLeDiff, Nat.reduceMul, Nat.reduceLT, Nat.reduceBEq, Int.reduceEq, tI_3, zI_3, underlying3, tI_4, zI_4, underlying4, tI_5, zI_5, underlying5, tI_6, zI_6, underlying6, tI_7, zI_7, fI_7_0, fI_7_1, fI_7_2, fI_7_3, bI_7, tI_9, zI_9, underlying9, tI_111, zI_111, eI_111, eB_111, eZ_111, underlying111, tI_118, zI_118, bI_118]
  refine (c_IndexS l s st).mono ?_
  rintro _ _ ⟨⟨k, rfl, hk⟩, rfl⟩
  simp -implicitDefEqProofs only [evb0, evb1, evb2, evb3, evb4, evb5, evb6, ↓Int.cast_ofNat_Int, implies_true, ne_eq, isMut, aFn, List.contains, List.elem, aBox, aField, aLoad, sub, aNil, aPick, aExt, aFld, gd, noJunk, plainOp, aBuildSlice, aParts, seqParts, fitAll, List.range', ↓reduceIte, reduceCtorEq, Nat.reduceEqDiff, Nat.reduceAdd, Nat.reduceLeDiff, Nat.reduceMul, Nat.reduceLT, Nat.reduceBEq, Int.reduceEq, tI_3, zI_3, underlying3, tI_4, zI_4, underlying4, tI_5, zI_5, underlying5, tI_6, zI_6, underlying6, tI_7, zI_7, fI_7_0, fI_7_1, fI_7_2, fI_7_3, bI_7, tI_9, zI_9, underlying9, tI_111, zI_111, eI_111, eB_111, eZ_111, underlying111, tI_118, zI_118, bI_118]
  rw [← hk]

theorem c_ContainsS' (l : List ByteArray) (s : ByteArray) (st : Store) : ACalls prog 105 [.fslice (l.map .str), .str s] st (fun r st' => r = .bool (l.any fun x => decide (s = x)) ∧ st' = st) :=
  ACalls.softArgs (by simp only [softL, AV.soft]; exact c_ContainsS l s st)
theorem c_l1Has' (l : List ByteArray) (s : ByteArray) (st : Store) : ACalls prog 107 [.fslice (l.map .str), .str s] st (fun r st' => r = .bool (l.any fun x => decide (x = s)) ∧ st' = st) :=
  ACalls.softArgs (by simp only [softL, AV.soft]; exact c_l1Has l s st)

def nameValid (s : ByteArray) : Bool := letters s || signs.any fun x => decide (s = x)
theorem any_swap (s : ByteArray) : (signs.any fun x => decide (x = s)) = signs.any fun x => decide (s = x) := by
  congr 1
  funext x
  exact decide_eq_decide.2 ⟨Eq.symm, Eq.symm⟩

theorem c_impl_NameValid (s : ByteArray) (st : Store) : ACalls prog 99 [.str s] st (fun r st' => r = .bool (nameValid s) ∧ st' = st) := by
  refine acalls_fit [] func99 ntmps99 rfl rfl (by kernel_rfl) (by decide +kernel) (by show 1 ≤ _; decide +kernel) ?_
  intro _
  repeat' (first
    | (simp -implicitDefEqProofs only [*, evb0, evb1, evb2, evb3, evb4, evb5, evb6, ↓Int.cast_ofNat_Int, implies_true, ne_eq, isMut, aFn, List.contains, List.elem, aBox, aField, aLoad, sub, aNil, aPick, aExt, aFld, gd, noJunk, plainOp, aBuildSlice, aParts, seqParts, fitAll, List.range', ↓reduceIte, reduceCtorEq, Nat.reduceEqDiff, Nat.reduceAdd, Nat.reduceLeDiff, Nat.reduceMul, Nat.reduceLT, Nat.reduceBEq, Int.reduceEq, tI_2, zI_2, underlying2, tI_3, zI_3, underlying3, tI_4, zI_4, underlying4, tI_6, zI_6, underlying6, tI_7, zI_7, fI_7_0, fI_7_1, fI_7_2, fI_7_3, bI_7, tI_8, zI_8, fI_8_0, fI_8_1, fI_8_2, fI_8_3, bI_8, tI_9, zI_9, underlying9, tI_10, zI_10, underlying10, tI_111, zI_111, eI_111, eB_111, eZ_111, underlying111])
    | (refine opsG_split (fun h => ?_) (fun h => ?_))
    | (refine (c_isLetters s st).to ?_) | (refine (c_symbols st).to ?_) | (refine (c_ContainsS' signs s st).to ?_)
    | (refine cond_split (fun h => ?_) (fun h => ?_)))
  all_goals simp only [nameValid, *, Bool.not_false, Bool.true_or, Bool.false_or]

theorem c_spec_NameValid (s : ByteArray) (st : Store) : ACalls prog 104 [.str s] st (fun r st' => r = .bool (nameValid s) ∧ st' = st) := by
  refine acalls_fit [] func104 ntmps104 rfl rfl (by kernel_rfl) (by decide +kernel) (by show 1 ≤ _; decide +kernel) ?_
  intro _
  repeat' (first
    | (simp -implicitDefEqProofs only [*, evb0, evb1, evb2, evb3, evb4, evb5, evb6, ↓Int.cast_ofNat_Int, implies_true, ne_eq, isMut, aFn, List.contains, List.elem, aBox, aField, aLoad, sub, aNil, aPick, aExt, aFld, gd, noJunk, plainOp, aBuildSlice, aParts, seqParts, fitAll, List.range', ↓reduceIte, reduceCtorEq, Nat.reduceEqDiff, Nat.reduceAdd, Nat.reduceLeDiff, Nat.reduceMul, Nat.reduceLT, Nat.reduceBEq, Int.reduceEq, tI_2, zI_2, underlying2, tI_3, zI_3, underlying3, tI_4, zI_4, underlying4, tI_6, zI_6, underlying6, tI_7, zI_7, fI_7_0, fI_7_1, fI_7_2, fI_7_3, bI_7, tI_8, zI_8, fI_8_0, fI_8_1, fI_8_2, fI_8_3, bI_8, tI_9, zI_9, underlying9, tI_10, zI_10, underlying10, tI_31, zI_31, fI_31_0, fI_31_1, fI_31_2, fI_31_3, bI_31, tI_111, zI_111, eI_111, eB_111, eZ_111, underlying111])
    | (refine opsG_split (fun h => ?_) (fun h => ?_))
    | (refine (c_l1Word s st).to ?_) | (refine (c_l1Signs st).to ?_) | (refine (c_l1Has' signs s st).to ?_)
    | (refine cond_split (fun h => ?_) (fun h => ?_)))
  all_goals simp only [nameValid, any_swap, *, Bool.not_false, Bool.true_or, Bool.false_or]
end Go.AW
