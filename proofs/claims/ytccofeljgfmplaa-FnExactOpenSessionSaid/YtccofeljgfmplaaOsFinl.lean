import Derived.Test.YtccofeljgfmplaaOsFink
import Derived.Test.YtccofeljgfmplaaOsFing
import Derived.Test.YtccofeljgfmplaaOsFini
import Derived.Test.YtccofeljgfmplaaOsFinf
import Derived.Test.YtccofeljgfmplaaOsFinj

/- Valid clauses and programs: what the program's and the reference's functions return. -/
namespace Go.AW
open Go.Proofs.Try
set_option linter.unusedSimpArgs false
set_option maxRecDepth 100000

theorem tf_C3_184 : (type_of% tI_2) ∧ (type_of% zI_2) ∧ (type_of% Go.Proofs.Try.underlying2) ∧ (type_of% tI_3) ∧ (type_of% zI_3) ∧ (type_of% Go.Proofs.Try.underlying3) ∧ (type_of% tI_4) ∧ (type_of% zI_4) ∧ (type_of% Go.Proofs.Try.underlying4) ∧ (type_of% tI_5) ∧ (type_of% zI_5) ∧ (type_of% Go.Proofs.Try.underlying5) ∧ (type_of% tI_6) ∧ (type_of% zI_6) ∧ (type_of% Go.Proofs.Try.underlying6) ∧ (type_of% tI_7) ∧ (type_of% zI_7) ∧ (type_of% fI_7_0) ∧ (type_of% fI_7_1) ∧ (type_of% fI_7_2) ∧ (type_of% fI_7_3) ∧ (type_of% bI_7) ∧ (type_of% tI_8) ∧ (type_of% zI_8) ∧ (type_of% fI_8_0) ∧ (type_of% fI_8_1) ∧ (type_of% fI_8_2) ∧ (type_of% fI_8_3) ∧ (type_of% bI_8) ∧ (type_of% tI_11) ∧ (type_of% zI_11) ∧ (type_of% Go.Proofs.Try.underlying11) ∧ (type_of% tI_15) ∧ (type_of% zI_15) ∧ (type_of% tI_16) ∧ (type_of% zI_16) ∧ (type_of% tI_18) ∧ (type_of% zI_18) ∧ (type_of% fI_18_0) ∧ (type_of% bI_18) ∧ (type_of% tI_19) ∧ (type_of% zI_19) ∧ (type_of% fI_19_0) ∧ (type_of% bI_19) ∧ (type_of% tI_64) ∧ (type_of% zI_64) ∧ (type_of% fI_64_0) ∧ (type_of% fI_64_1) ∧ (type_of% bI_64) ∧ (type_of% tI_73) ∧ (type_of% zI_73) ∧ (type_of% eI_73) ∧ (type_of% eB_73) ∧ (type_of% eZ_73) ∧ (type_of% Go.Proofs.Try.underlying73) ∧ (type_of% tI_136) ∧ (type_of% zI_136) ∧ (type_of% fI_136_0) ∧ (type_of% fI_136_1) ∧ (type_of% bI_136) := ⟨tI_2, zI_2, Go.Proofs.Try.underlying2, tI_3, zI_3, Go.Proofs.Try.underlying3, tI_4, zI_4, Go.Proofs.Try.underlying4, tI_5, zI_5, Go.Proofs.Try.underlying5, tI_6, zI_6, Go.Proofs.Try.underlying6, tI_7, zI_7, fI_7_0, fI_7_1, fI_7_2, fI_7_3, bI_7, tI_8, zI_8, fI_8_0, fI_8_1, fI_8_2, fI_8_3, bI_8, tI_11, zI_11, Go.Proofs.Try.underlying11, tI_15, zI_15, tI_16, zI_16, tI_18, zI_18, fI_18_0, bI_18, tI_19, zI_19, fI_19_0, bI_19, tI_64, zI_64, fI_64_0, fI_64_1, bI_64, tI_73, zI_73, eI_73, eB_73, eZ_73, Go.Proofs.Try.underlying73, tI_136, zI_136, fI_136_0, fI_136_1, bI_136⟩
theorem c_IndexFuncCl (l : List Cl) (g : FuncId) (caps : List AV) (p : Cl → Bool) (st : Store) (hc : ∀ x ∈ l, ACalls prog g ([clAv x] ++ caps) st (fun r st' => r = .bool (p x) ∧ st' = st)) :
    ACalls prog 184 [.slice (l.map clAv), .func g caps] st (fun r st' => ∃ j : Int, r = .int .i64 j ∧ decide (0 ≤ j) = l.any p ∧ st' = st) := by
  refine acalls_fit [] func184 ntmps184 rfl rfl (by kernel_rfl) (by decide +kernel) (by show 2 ≤ _; decide +kernel) ?_
  simp only [fitsL, AV.fits, and_true, List.length_map]
  intro ⟨hl, _⟩
  simp -implicitDefEqProofs only [List.length_map, evb0, evb1, evb2, evb3, evb4, evb5, evb6, evb7, evb8, evb9, ↓evZ2, ↓evZ3, ↓Int.cast_ofNat_Int, implies_true, ne_eq, or_false, false_or, or_self, gt_iff_lt, isMut, aFn, List.contains, List.elem, aBox, aField, aLoad, sub, aNil, aPick, aExt, aFld, gd, noJunk, plainOp, aBuildSlice, aBuild, aFill, aParts, seqParts, fitAll, List.range', ↓reduceIte, reduceCtorEq, Nat.reduceEqDiff, Nat.reduceAdd, Nat.reduceLeDiff, Nat.reduceMul, Nat.reduceLT, Nat.reduceBEq, Int.reduceEq, tf_C3_184]
  refine arun_each (σ := Unit) [] [0, 1, 7] l (fun i _ => (l.drop i).any p = l.any p) (fun i _ => [(8, .int .i64 i)]) (fun _ _ => st) (by decide +kernel) ⟨(), rfl, LessL.mk (by simp -implicitDefEqProofs only [evb0, evb1, evb2, evb3, evb4, evb5, evb6, evb7, evb8, evb9, ↓evZ2, ↓evZ3, ↓Int.cast_ofNat_Int, implies_true, ne_eq, or_false, false_or, or_self, gt_iff_lt, isMut, aFn, List.contains, List.elem, aBox, aField, aLoad, sub, aNil, aPick, aExt, aFld, gd, noJunk, plainOp, aBuildSlice, aBuild, aFill, aParts, seqParts, fitAll, List.range', ↓reduceIte, reduceCtorEq, Nat.reduceEqDiff, Nat.reduceAdd, Nat.reduceLeDiff, Nat.reduceMul, Nat.reduceLT, Nat.reduceBEq, Int.reduceEq, tf_C3_184])⟩ (fun i x _ hx hlt hlt' hdr hinv => ?_) (fun _ hge hinv => ?_)
  case refine_2 =>
    simp -implicitDefEqProofs only [List.length_map, hge, evb0, evb1, evb2, evb3, evb4, evb5, evb6, evb7, evb8, evb9, ↓evZ2, ↓evZ3, ↓Int.cast_ofNat_Int, implies_true, ne_eq, or_false, false_or, or_self, gt_iff_lt, isMut, aFn, List.contains, List.elem, aBox, aField, aLoad, sub, aNil, aPick, aExt, aFld, gd, noJunk, plainOp, aBuildSlice, aBuild, aFill, aParts, seqParts, fitAll, List.range', ↓reduceIte, reduceCtorEq, Nat.reduceEqDiff, Nat.reduceAdd, Nat.reduceLeDiff, Nat.reduceMul, Nat.reduceLT, Nat.reduceBEq, Int.reduceEq, tf_C3_184]
    rw [List.drop_length] at hinv
    exact ⟨-1, rfl, by rw [← hinv]; rfl⟩
  rw [hdr, List.any_cons] at hinv
  have hw := wrap64 (n := (i : Int) + 1) (by omega) (by omega)
  simp -implicitDefEqProofs only [List.length_map, hlt', ev_at (av := clAv) eI_73 hx (clAv_width x), clAv_agg, clAv_width, evb0, evb1, evb2, evb3, evb4, evb5, evb6, evb7, evb8, evb9, ↓evZ2, ↓evZ3, ↓Int.cast_ofNat_Int, implies_true, ne_eq, or_false, false_or, or_self, gt_iff_lt, isMut, aFn, List.contains, List.elem, aBox, aField, aLoad, sub, aNil, aPick, aExt, aFld, gd, noJunk, plainOp, aBuildSlice, aBuild, aFill, aParts, seqParts, fitAll, List.range', ↓reduceIte, reduceCtorEq, Nat.reduceEqDiff, Nat.reduceAdd, Nat.reduceLeDiff, Nat.reduceMul, Nat.reduceLT, Nat.reduceBEq, Int.reduceEq, tf_C3_184]
  refine (hc x (List.mem_of_getElem? hx)).to ?_
  simp -implicitDefEqProofs only [evb0, evb1, evb2, evb3, evb4, evb5, evb6, evb7, evb8, evb9, ↓evZ2, ↓evZ3, ↓Int.cast_ofNat_Int, implies_true, ne_eq, or_false, false_or, or_self, gt_iff_lt, isMut, aFn, List.contains, List.elem, aBox, aField, aLoad, sub, aNil, aPick, aExt, aFld, gd, noJunk, plainOp, aBuildSlice, aBuild, aFill, aParts, seqParts, fitAll, List.range', ↓reduceIte, reduceCtorEq, Nat.reduceEqDiff, Nat.reduceAdd, Nat.reduceLeDiff, Nat.reduceMul, Nat.reduceLT, Nat.reduceBEq, Int.reduceEq, tf_C3_184]
  refine cond_split (fun h => ?_) (fun h => ?_)
  · simp -implicitDefEqProofs only [evb0, evb1, evb2, evb3, evb4, evb5, evb6, evb7, evb8, evb9, ↓evZ2, ↓evZ3, ↓Int.cast_ofNat_Int, implies_true, ne_eq, or_false, false_or, or_self, gt_iff_lt, isMut, aFn, List.contains, List.elem, aBox, aField, aLoad, sub, aNil, aPick, aExt, aFld, gd, noJunk, plainOp, aBuildSlice, aBuild, aFill, aParts, seqParts, fitAll, List.range', ↓reduceIte, reduceCtorEq, Nat.reduceEqDiff, Nat.reduceAdd, Nat.reduceLeDiff, Nat.reduceMul, Nat.reduceLT, Nat.reduceBEq, Int.reduceEq, tf_C3_184]
    exact ⟨i, rfl, by rw [← hinv, h]; simp⟩
  · rw [h, Bool.false_or] at hinv
    simp -implicitDefEqProofs only [evb0, evb1, evb2, evb3, evb4, evb5, evb6, evb7, evb8, evb9, ↓evZ2, ↓evZ3, ↓Int.cast_ofNat_Int, implies_true, ne_eq, or_false, false_or, or_self, gt_iff_lt, isMut, aFn, List.contains, List.elem, aBox, aField, aLoad, sub, aNil, aPick, aExt, aFld, gd, noJunk, plainOp, aBuildSlice, aBuild, aFill, aParts, seqParts, fitAll, List.range', ↓reduceIte, reduceCtorEq, Nat.reduceEqDiff, Nat.reduceAdd, Nat.reduceLeDiff, Nat.reduceMul, Nat.reduceLT, Nat.reduceBEq, Int.reduceEq, tf_C3_184]
    exact ⟨(), hinv, LessL.mk (by simp -implicitDefEqProofs only [hw, evb0, evb1, evb2, evb3, evb4, evb5, evb6, evb7, evb8, evb9, ↓evZ2, ↓evZ3, ↓Int.cast_ofNat_Int, implies_true, ne_eq, or_false, false_or, or_self, gt_iff_lt, isMut, aFn, List.contains, List.elem, aBox, aField, aLoad, sub, aNil, aPick, aExt, aFld, gd, noJunk, plainOp, aBuildSlice, aBuild, aFill, aParts, seqParts, fitAll, List.range', ↓reduceIte, reduceCtorEq, Nat.reduceEqDiff, Nat.reduceAdd, Nat.reduceLeDiff, Nat.reduceMul, Nat.reduceLT, Nat.reduceBEq, Int.reduceEq, tf_C3_184])⟩

theorem tf_C3_139 : (type_of% tI_3) ∧ (type_of% zI_3) ∧ (type_of% Go.Proofs.Try.underlying3) ∧ (type_of% tI_4) ∧ (type_of% zI_4) ∧ (type_of% Go.Proofs.Try.underlying4) ∧ (type_of% tI_5) ∧ (type_of% zI_5) ∧ (type_of% Go.Proofs.Try.underlying5) ∧ (type_of% tI_6) ∧ (type_of% zI_6) ∧ (type_of% Go.Proofs.Try.underlying6) ∧ (type_of% tI_7) ∧ (type_of% zI_7) ∧ (type_of% fI_7_0) ∧ (type_of% fI_7_1) ∧ (type_of% fI_7_2) ∧ (type_of% fI_7_3) ∧ (type_of% bI_7) ∧ (type_of% tI_9) ∧ (type_of% zI_9) ∧ (type_of% Go.Proofs.Try.underlying9) ∧ (type_of% tI_64) ∧ (type_of% zI_64) ∧ (type_of% fI_64_0) ∧ (type_of% fI_64_1) ∧ (type_of% bI_64) ∧ (type_of% tI_73) ∧ (type_of% zI_73) ∧ (type_of% eI_73) ∧ (type_of% eB_73) ∧ (type_of% eZ_73) ∧ (type_of% Go.Proofs.Try.underlying73) ∧ (type_of% tI_125) ∧ (type_of% zI_125) ∧ (type_of% fI_125_0) ∧ (type_of% fI_125_1) ∧ (type_of% bI_125) := ⟨tI_3, zI_3, Go.Proofs.Try.underlying3, tI_4, zI_4, Go.Proofs.Try.underlying4, tI_5, zI_5, Go.Proofs.Try.underlying5, tI_6, zI_6, Go.Proofs.Try.underlying6, tI_7, zI_7, fI_7_0, fI_7_1, fI_7_2, fI_7_3, bI_7, tI_9, zI_9, Go.Proofs.Try.underlying9, tI_64, zI_64, fI_64_0, fI_64_1, bI_64, tI_73, zI_73, eI_73, eB_73, eZ_73, Go.Proofs.Try.underlying73, tI_125, zI_125, fI_125_0, fI_125_1, bI_125⟩
theorem c_ContainsFuncCl (l : List Cl) (g : FuncId) (caps : List AV) (p : Cl → Bool) (st : Store) (hc : ∀ x ∈ l, ACalls prog g ([clAv x] ++ caps) st (fun r st' => r = .bool (p x) ∧ st' = st)) :
    ACalls prog 139 [.slice (l.map clAv), .func g caps] st (fun r st' => r = .bool (l.any p) ∧ st' = st) := by
  refine acalls_fit [] func139 ntmps139 rfl rfl (by kernel_rfl) (by decide +kernel) (by show 2 ≤ _; decide +kernel) ?_
  intro _
  simp -implicitDefEqProofs only [evb0, evb1, evb2, evb3, evb4, evb5, evb6, evb7, evb8, evb9, ↓evZ2, ↓evZ3, ↓Int.cast_ofNat_Int, implies_true, ne_eq, or_false, false_or, or_self, gt_iff_lt, isMut, aFn, List.contains, List.elem, aBox, aField, aLoad, sub, aNil, aPick, aExt, aFld, gd, noJunk, plainOp, aBuildSlice, aBuild, aFill, aParts, seqParts, fitAll, List.range', ↓reduceIte, reduceCtorEq, Nat.reduceEqDiff, Nat.reduceAdd, Nat.reduceLeDiff, Nat.reduceMul, Nat.reduceLT, Nat.reduceBEq, Int.reduceEq, tf_C3_139]
  refine (c_IndexFuncCl l g caps p st hc).mono ?_
  rintro _ _ ⟨j, rfl, hj, rfl⟩
  simp -implicitDefEqProofs only [hj, evb0, evb1, evb2, evb3, evb4, evb5, evb6, evb7, evb8, evb9, ↓evZ2, ↓evZ3, ↓Int.cast_ofNat_Int, implies_true, ne_eq, or_false, false_or, or_self, gt_iff_lt, isMut, aFn, List.contains, List.elem, aBox, aField, aLoad, sub, aNil, aPick, aExt, aFld, gd, noJunk, plainOp, aBuildSlice, aBuild, aFill, aParts, seqParts, fitAll, List.range', ↓reduceIte, reduceCtorEq, Nat.reduceEqDiff, Nat.reduceAdd, Nat.reduceLeDiff, Nat.reduceMul, Nat.reduceLT, Nat.reduceBEq, Int.reduceEq, tf_C3_139]


theorem tf_C3_141 : (type_of% tI_3) ∧ (type_of% zI_3) ∧ (type_of% Go.Proofs.Try.underlying3) ∧ (type_of% tI_4) ∧ (type_of% zI_4) ∧ (type_of% Go.Proofs.Try.underlying4) ∧ (type_of% tI_5) ∧ (type_of% zI_5) ∧ (type_of% Go.Proofs.Try.underlying5) ∧ (type_of% tI_8) ∧ (type_of% zI_8) ∧ (type_of% fI_8_0) ∧ (type_of% fI_8_1) ∧ (type_of% fI_8_2) ∧ (type_of% fI_8_3) ∧ (type_of% bI_8) ∧ (type_of% tI_9) ∧ (type_of% zI_9) ∧ (type_of% Go.Proofs.Try.underlying9) ∧ (type_of% tI_13) ∧ (type_of% zI_13) ∧ (type_of% fI_13_0) ∧ (type_of% fI_13_1) ∧ (type_of% bI_13) ∧ (type_of% tI_14) ∧ (type_of% zI_14) ∧ (type_of% fI_14_0) ∧ (type_of% fI_14_1) ∧ (type_of% bI_14) ∧ (type_of% tI_16) ∧ (type_of% zI_16) ∧ (type_of% tI_27) ∧ (type_of% zI_27) ∧ (type_of% eI_27) ∧ (type_of% eB_27) ∧ (type_of% eZ_27) ∧ (type_of% Go.Proofs.Try.underlying27) ∧ (type_of% tI_41) ∧ (type_of% zI_41) ∧ (type_of% fI_41_0) ∧ (type_of% fI_41_1) ∧ (type_of% fI_41_2) ∧ (type_of% fI_41_3) ∧ (type_of% bI_41) ∧ (type_of% tI_136) ∧ (type_of% zI_136) ∧ (type_of% fI_136_0) ∧ (type_of% fI_136_1) ∧ (type_of% bI_136) := ⟨tI_3, zI_3, Go.Proofs.Try.underlying3, tI_4, zI_4, Go.Proofs.Try.underlying4, tI_5, zI_5, Go.Proofs.Try.underlying5, tI_8, zI_8, fI_8_0, fI_8_1, fI_8_2, fI_8_3, bI_8, tI_9, zI_9, Go.Proofs.Try.underlying9, tI_13, zI_13, fI_13_0, fI_13_1, bI_13, tI_14, zI_14, fI_14_0, fI_14_1, bI_14, tI_16, zI_16, tI_27, zI_27, eI_27, eB_27, eZ_27, Go.Proofs.Try.underlying27, tI_41, zI_41, fI_41_0, fI_41_1, fI_41_2, fI_41_3, bI_41, tI_136, zI_136, fI_136_0, fI_136_1, bI_136⟩
theorem c_impl_ClauseValid (c : Cl) (st : Store) : ACalls prog 141 [clAv c] st (fun r st' => r = .bool (clOk c) ∧ st' = st) := by
  obtain ⟨⟨k, n, s, ts⟩, b⟩ := c
  have hv := fun st => c_impl_TermValid (.mk k n s ts) st
  have hp := fun st => c_isPlain k n s ts st
  simp only [Tm.av_mk] at hv hp
  have hg := fun st => c_goalsValid b st
  simp only [clAv_mk, clOk, plainT]
  simp only [queryOk] at hg
  generalize (Tm.mk k n s ts).valid = v at *
  refine acalls_fit [1000000] func141 ntmps141 rfl rfl (by kernel_rfl) (by decide +kernel) (by show 1 ≤ _; decide +kernel) ?_
  intro _
  simp -implicitDefEqProofs only [evb0, evb1, evb2, evb3, evb4, evb5, evb6, evb7, evb8, evb9, ↓evZ2, ↓evZ3, ↓Int.cast_ofNat_Int, implies_true, ne_eq, or_false, false_or, or_self, gt_iff_lt, isMut, aFn, List.contains, List.elem, aBox, aField, aLoad, sub, aNil, aPick, aExt, aFld, gd, noJunk, plainOp, aBuildSlice, aBuild, aFill, aParts, seqParts, fitAll, List.range', ↓reduceIte, reduceCtorEq, Nat.reduceEqDiff, Nat.reduceAdd, Nat.reduceLeDiff, Nat.reduceMul, Nat.reduceLT, Nat.reduceBEq, Int.reduceEq, tf_C3_141]
  refine (hv _).to ?_
  cases v with
  | false => simp -implicitDefEqProofs only [Bool.false_and, evb0, evb1, evb2, evb3, evb4, evb5, evb6, evb7, evb8, evb9, ↓evZ2, ↓evZ3, ↓Int.cast_ofNat_Int, implies_true, ne_eq, or_false, false_or, or_self, gt_iff_lt, isMut, aFn, List.contains, List.elem, aBox, aField, aLoad, sub, aNil, aPick, aExt, aFld, gd, noJunk, plainOp, aBuildSlice, aBuild, aFill, aParts, seqParts, fitAll, List.range', ↓reduceIte, reduceCtorEq, Nat.reduceEqDiff, Nat.reduceAdd, Nat.reduceLeDiff, Nat.reduceMul, Nat.reduceLT, Nat.reduceBEq, Int.reduceEq, tf_C3_141]
  | true =>
    simp -implicitDefEqProofs only [beq_self_eq_true, Bool.true_and, evb0, evb1, evb2, evb3, evb4, evb5, evb6, evb7, evb8, evb9, ↓evZ2, ↓evZ3, ↓Int.cast_ofNat_Int, implies_true, ne_eq, or_false, false_or, or_self, gt_iff_lt, isMut, aFn, List.contains, List.elem, aBox, aField, aLoad, sub, aNil, aPick, aExt, aFld, gd, noJunk, plainOp, aBuildSlice, aBuild, aFill, aParts, seqParts, fitAll, List.range', ↓reduceIte, reduceCtorEq, Nat.reduceEqDiff, Nat.reduceAdd, Nat.reduceLeDiff, Nat.reduceMul, Nat.reduceLT, Nat.reduceBEq, Int.reduceEq, tf_C3_141]
    refine (hp _).to ?_
    cases hpl : plainGoal k s (ts.length : Int) with
    | false => simp -implicitDefEqProofs only [Bool.false_and, evb0, evb1, evb2, evb3, evb4, evb5, evb6, evb7, evb8, evb9, ↓evZ2, ↓evZ3, ↓Int.cast_ofNat_Int, implies_true, ne_eq, or_false, false_or, or_self, gt_iff_lt, isMut, aFn, List.contains, List.elem, aBox, aField, aLoad, sub, aNil, aPick, aExt, aFld, gd, noJunk, plainOp, aBuildSlice, aBuild, aFill, aParts, seqParts, fitAll, List.range', ↓reduceIte, reduceCtorEq, Nat.reduceEqDiff, Nat.reduceAdd, Nat.reduceLeDiff, Nat.reduceMul, Nat.reduceLT, Nat.reduceBEq, Int.reduceEq, tf_C3_141]
    | true =>
      simp -implicitDefEqProofs only [beq_self_eq_true, Bool.true_and, evb0, evb1, evb2, evb3, evb4, evb5, evb6, evb7, evb8, evb9, ↓evZ2, ↓evZ3, ↓Int.cast_ofNat_Int, implies_true, ne_eq, or_false, false_or, or_self, gt_iff_lt, isMut, aFn, List.contains, List.elem, aBox, aField, aLoad, sub, aNil, aPick, aExt, aFld, gd, noJunk, plainOp, aBuildSlice, aBuild, aFill, aParts, seqParts, fitAll, List.range', ↓reduceIte, reduceCtorEq, Nat.reduceEqDiff, Nat.reduceAdd, Nat.reduceLeDiff, Nat.reduceMul, Nat.reduceLT, Nat.reduceBEq, Int.reduceEq, tf_C3_141]
      refine (hg _).to ?_
      simp -implicitDefEqProofs only [evb0, evb1, evb2, evb3, evb4, evb5, evb6, evb7, evb8, evb9, ↓evZ2, ↓evZ3, ↓Int.cast_ofNat_Int, implies_true, ne_eq, or_false, false_or, or_self, gt_iff_lt, isMut, aFn, List.contains, List.elem, aBox, aField, aLoad, sub, aNil, aPick, aExt, aFld, gd, noJunk, plainOp, aBuildSlice, aBuild, aFill, aParts, seqParts, fitAll, List.range', ↓reduceIte, reduceCtorEq, Nat.reduceEqDiff, Nat.reduceAdd, Nat.reduceLeDiff, Nat.reduceMul, Nat.reduceLT, Nat.reduceBEq, Int.reduceEq, tf_C3_141]

theorem tf_C3_140 : (type_of% tI_3) ∧ (type_of% zI_3) ∧ (type_of% Go.Proofs.Try.underlying3) ∧ (type_of% tI_4) ∧ (type_of% zI_4) ∧ (type_of% Go.Proofs.Try.underlying4) ∧ (type_of% tI_6) ∧ (type_of% zI_6) ∧ (type_of% Go.Proofs.Try.underlying6) ∧ (type_of% tI_136) ∧ (type_of% zI_136) ∧ (type_of% fI_136_0) ∧ (type_of% fI_136_1) ∧ (type_of% bI_136) := ⟨tI_3, zI_3, Go.Proofs.Try.underlying3, tI_4, zI_4, Go.Proofs.Try.underlying4, tI_6, zI_6, Go.Proofs.Try.underlying6, tI_136, zI_136, fI_136_0, fI_136_1, bI_136⟩
theorem c_ProgramValid_1 (c : Cl) (st : Store) : ACalls prog 140 [clAv c] st (fun r st' => r = .bool (!clOk c) ∧ st' = st) := by
  refine acalls_fit [1000000] func140 ntmps140 rfl rfl (by kernel_rfl) (by decide +kernel) (by show 1 ≤ _; decide +kernel) ?_
  intro _
  simp -implicitDefEqProofs only [clAv_junk, clAv_agg, clAv_width, evb0, evb1, evb2, evb3, evb4, evb5, evb6, evb7, evb8, evb9, ↓evZ2, ↓evZ3, ↓Int.cast_ofNat_Int, implies_true, ne_eq, or_false, false_or, or_self, gt_iff_lt, isMut, aFn, List.contains, List.elem, aBox, aField, aLoad, sub, aNil, aPick, aExt, aFld, gd, noJunk, plainOp, aBuildSlice, aBuild, aFill, aParts, seqParts, fitAll, List.range', ↓reduceIte, reduceCtorEq, Nat.reduceEqDiff, Nat.reduceAdd, Nat.reduceLeDiff, Nat.reduceMul, Nat.reduceLT, Nat.reduceBEq, Int.reduceEq, tf_C3_140]
  refine (c_impl_ClauseValid c st).to ?_
  simp -implicitDefEqProofs only [evb0, evb1, evb2, evb3, evb4, evb5, evb6, evb7, evb8, evb9, ↓evZ2, ↓evZ3, ↓Int.cast_ofNat_Int, implies_true, ne_eq, or_false, false_or, or_self, gt_iff_lt, isMut, aFn, List.contains, List.elem, aBox, aField, aLoad, sub, aNil, aPick, aExt, aFld, gd, noJunk, plainOp, aBuildSlice, aBuild, aFill, aParts, seqParts, fitAll, List.range', ↓reduceIte, reduceCtorEq, Nat.reduceEqDiff, Nat.reduceAdd, Nat.reduceLeDiff, Nat.reduceMul, Nat.reduceLT, Nat.reduceBEq, Int.reduceEq, tf_C3_140]
theorem tf_C3_97 : (type_of% tI_3) ∧ (type_of% zI_3) ∧ (type_of% Go.Proofs.Try.underlying3) ∧ (type_of% tI_4) ∧ (type_of% zI_4) ∧ (type_of% Go.Proofs.Try.underlying4) ∧ (type_of% tI_7) ∧ (type_of% zI_7) ∧ (type_of% fI_7_0) ∧ (type_of% fI_7_1) ∧ (type_of% fI_7_2) ∧ (type_of% fI_7_3) ∧ (type_of% bI_7) ∧ (type_of% tI_8) ∧ (type_of% zI_8) ∧ (type_of% fI_8_0) ∧ (type_of% fI_8_1) ∧ (type_of% fI_8_2) ∧ (type_of% fI_8_3) ∧ (type_of% bI_8) ∧ (type_of% tI_11) ∧ (type_of% zI_11) ∧ (type_of% Go.Proofs.Try.underlying11) ∧ (type_of% tI_64) ∧ (type_of% zI_64) ∧ (type_of% fI_64_0) ∧ (type_of% fI_64_1) ∧ (type_of% bI_64) ∧ (type_of% tI_73) ∧ (type_of% zI_73) ∧ (type_of% eI_73) ∧ (type_of% eB_73) ∧ (type_of% eZ_73) ∧ (type_of% Go.Proofs.Try.underlying73) ∧ (type_of% tI_140) ∧ (type_of% zI_140) := ⟨tI_3, zI_3, Go.Proofs.Try.underlying3, tI_4, zI_4, Go.Proofs.Try.underlying4, tI_7, zI_7, fI_7_0, fI_7_1, fI_7_2, fI_7_3, bI_7, tI_8, zI_8, fI_8_0, fI_8_1, fI_8_2, fI_8_3, bI_8, tI_11, zI_11, Go.Proofs.Try.underlying11, tI_64, zI_64, fI_64_0, fI_64_1, bI_64, tI_73, zI_73, eI_73, eB_73, eZ_73, Go.Proofs.Try.underlying73, tI_140, zI_140⟩
theorem c_impl_ProgramValid (p : List Cl) (st : Store) : ACalls prog 97 [.slice (p.map clAv)] st (fun r st' => r = .bool (progOk p) ∧ st' = st) := by
  refine acalls_fit [1000000] func97 ntmps97 rfl rfl (by kernel_rfl) (by decide +kernel) (by show 1 ≤ _; decide +kernel) ?_
  simp only [fitsL, AV.fits, and_true, List.length_map]
  intro _
  unfold progOk
  simp -implicitDefEqProofs only [List.length_map, evb0, evb1, evb2, evb3, evb4, evb5, evb6, evb7, evb8, evb9, ↓evZ2, ↓evZ3, ↓Int.cast_ofNat_Int, implies_true, ne_eq, or_false, false_or, or_self, gt_iff_lt, isMut, aFn, List.contains, List.elem, aBox, aField, aLoad, sub, aNil, aPick, aExt, aFld, gd, noJunk, plainOp, aBuildSlice, aBuild, aFill, aParts, seqParts, fitAll, List.range', ↓reduceIte, reduceCtorEq, Nat.reduceEqDiff, Nat.reduceAdd, Nat.reduceLeDiff, Nat.reduceMul, Nat.reduceLT, Nat.reduceBEq, Int.reduceEq, tf_C3_97]
  refine opsG_split (fun h => ?_) (fun h => ?_)
  · simp only [decide_eq_true_eq] at h
    rw [show decide (p.length ≤ 20) = true by simp; omega]
    simp -implicitDefEqProofs only [h, List.length_map, evb0, evb1, evb2, evb3, evb4, evb5, evb6, evb7, evb8, evb9, ↓evZ2, ↓evZ3, ↓Int.cast_ofNat_Int, implies_true, ne_eq, or_false, false_or, or_self, gt_iff_lt, isMut, aFn, List.contains, List.elem, aBox, aField, aLoad, sub, aNil, aPick, aExt, aFld, gd, noJunk, plainOp, aBuildSlice, aBuild, aFill, aParts, seqParts, fitAll, List.range', ↓reduceIte, reduceCtorEq, Nat.reduceEqDiff, Nat.reduceAdd, Nat.reduceLeDiff, Nat.reduceMul, Nat.reduceLT, Nat.reduceBEq, Int.reduceEq, tf_C3_97]
    refine (c_ContainsFuncCl p _ [] (fun t => !clOk t) st fun x _ => c_ProgramValid_1 x st).to ?_
    simp -implicitDefEqProofs only [h, any_not_all, List.length_map, evb0, evb1, evb2, evb3, evb4, evb5, evb6, evb7, evb8, evb9, ↓evZ2, ↓evZ3, ↓Int.cast_ofNat_Int, implies_true, ne_eq, or_false, false_or, or_self, gt_iff_lt, isMut, aFn, List.contains, List.elem, aBox, aField, aLoad, sub, aNil, aPick, aExt, aFld, gd, noJunk, plainOp, aBuildSlice, aBuild, aFill, aParts, seqParts, fitAll, List.range', ↓reduceIte, reduceCtorEq, Nat.reduceEqDiff, Nat.reduceAdd, Nat.reduceLeDiff, Nat.reduceMul, Nat.reduceLT, Nat.reduceBEq, Int.reduceEq, tf_C3_97]
  · simp only [Bool.not_true, decide_eq_false_iff_not] at h
    rw [show decide (p.length ≤ 20) = false by simp; omega]
    simp -implicitDefEqProofs only [h, List.length_map, evb0, evb1, evb2, evb3, evb4, evb5, evb6, evb7, evb8, evb9, ↓evZ2, ↓evZ3, ↓Int.cast_ofNat_Int, implies_true, ne_eq, or_false, false_or, or_self, gt_iff_lt, isMut, aFn, List.contains, List.elem, aBox, aField, aLoad, sub, aNil, aPick, aExt, aFld, gd, noJunk, plainOp, aBuildSlice, aBuild, aFill, aParts, seqParts, fitAll, List.range', ↓reduceIte, reduceCtorEq, Nat.reduceEqDiff, Nat.reduceAdd, Nat.reduceLeDiff, Nat.reduceMul, Nat.reduceLT, Nat.reduceBEq, Int.reduceEq, tf_C3_97]
    rfl

theorem tf_C3_136 : (type_of% tI_2) ∧ (type_of% zI_2) ∧ (type_of% Go.Proofs.Try.underlying2) ∧ (type_of% tI_3) ∧ (type_of% zI_3) ∧ (type_of% Go.Proofs.Try.underlying3) ∧ (type_of% tI_4) ∧ (type_of% zI_4) ∧ (type_of% Go.Proofs.Try.underlying4) ∧ (type_of% tI_5) ∧ (type_of% zI_5) ∧ (type_of% Go.Proofs.Try.underlying5) ∧ (type_of% tI_6) ∧ (type_of% zI_6) ∧ (type_of% Go.Proofs.Try.underlying6) ∧ (type_of% tI_7) ∧ (type_of% zI_7) ∧ (type_of% fI_7_0) ∧ (type_of% fI_7_1) ∧ (type_of% fI_7_2) ∧ (type_of% fI_7_3) ∧ (type_of% bI_7) ∧ (type_of% tI_9) ∧ (type_of% zI_9) ∧ (type_of% Go.Proofs.Try.underlying9) ∧ (type_of% tI_19) ∧ (type_of% zI_19) ∧ (type_of% fI_19_0) ∧ (type_of% bI_19) ∧ (type_of% tI_21) ∧ (type_of% zI_21) ∧ (type_of% Go.Proofs.Try.underlying21) ∧ (type_of% tI_23) ∧ (type_of% zI_23) ∧ (type_of% fI_23_0) ∧ (type_of% bI_23) ∧ (type_of% tI_24) ∧ (type_of% zI_24) ∧ (type_of% fI_24_0) ∧ (type_of% bI_24) ∧ (type_of% tI_27) ∧ (type_of% zI_27) ∧ (type_of% eI_27) ∧ (type_of% eB_27) ∧ (type_of% eZ_27) ∧ (type_of% Go.Proofs.Try.underlying27) ∧ (type_of% tI_40) ∧ (type_of% zI_40) ∧ (type_of% fI_40_0) ∧ (type_of% fI_40_1) ∧ (type_of% fI_40_2) ∧ (type_of% fI_40_3) ∧ (type_of% bI_40) ∧ (type_of% tI_41) ∧ (type_of% zI_41) ∧ (type_of% fI_41_0) ∧ (type_of% fI_41_1) ∧ (type_of% fI_41_2) ∧ (type_of% fI_41_3) ∧ (type_of% bI_41) ∧ (type_of% tI_64) ∧ (type_of% zI_64) ∧ (type_of% fI_64_0) ∧ (type_of% fI_64_1) ∧ (type_of% bI_64) ∧ (type_of% tI_136) ∧ (type_of% zI_136) ∧ (type_of% fI_136_0) ∧ (type_of% fI_136_1) ∧ (type_of% bI_136) := ⟨tI_2, zI_2, Go.Proofs.Try.underlying2, tI_3, zI_3, Go.Proofs.Try.underlying3, tI_4, zI_4, Go.Proofs.Try.underlying4, tI_5, zI_5, Go.Proofs.Try.underlying5, tI_6, zI_6, Go.Proofs.Try.underlying6, tI_7, zI_7, fI_7_0, fI_7_1, fI_7_2, fI_7_3, bI_7, tI_9, zI_9, Go.Proofs.Try.underlying9, tI_19, zI_19, fI_19_0, bI_19, tI_21, zI_21, Go.Proofs.Try.underlying21, tI_23, zI_23, fI_23_0, bI_23, tI_24, zI_24, fI_24_0, bI_24, tI_27, zI_27, eI_27, eB_27, eZ_27, Go.Proofs.Try.underlying27, tI_40, zI_40, fI_40_0, fI_40_1, fI_40_2, fI_40_3, bI_40, tI_41, zI_41, fI_41_0, fI_41_1, fI_41_2, fI_41_3, bI_41, tI_64, zI_64, fI_64_0, fI_64_1, bI_64, tI_136, zI_136, fI_136_0, fI_136_1, bI_136⟩
theorem c_spec_ClauseValid (c : Cl) (st : Store) : ACalls prog 136 [clAv c] st (fun r st' => r = .bool (clOk c) ∧ st' = st) := by
  obtain ⟨⟨k, n, s, ts⟩, l⟩ := c
  have hv := fun st => c_spec_TermValid (.mk k n s ts) st
  have hp := fun st => c_l4Plain k n s ts st
  simp only [Tm.av_mk] at hv hp
  simp only [clAv_mk, clOk, plainT]
  generalize (Tm.mk k n s ts).valid = v at *
  refine acalls_fit [1000000] func136 ntmps136 rfl rfl (by kernel_rfl) (by decide +kernel) (by show 1 ≤ _; decide +kernel) ?_
  simp only [fitsL, AV.fits, and_true, List.length_map]
  intro ⟨_, _, _, _, hl, _⟩
  have hend : l.all Tm.goal = true ∨ l.length > 6 → (decide ((l.length : Int) ≤ 6) && v && plainGoal k s (ts.length : Int)) = (v && plainGoal k s (ts.length : Int) && (decide (l.length ≤ 6) && l.all Tm.goal)) := fun h => by
    by_cases h6 : l.length ≤ 6
    · have hg : l.all Tm.goal = true := h.resolve_right (by omega)
      rw [hg, show decide ((l.length : Int) ≤ 6) = true from decide_eq_true (by omega), show decide (l.length ≤ 6) = true from decide_eq_true h6]
      simp
    · rw [show decide ((l.length : Int) ≤ 6) = false from decide_eq_false (by omega), show decide (l.length ≤ 6) = false from decide_eq_false h6]
      simp
  simp -implicitDefEqProofs only [List.length_map, evb0, evb1, evb2, evb3, evb4, evb5, evb6, evb7, evb8, evb9, ↓evZ2, ↓evZ3, ↓Int.cast_ofNat_Int, implies_true, ne_eq, or_false, false_or, or_self, gt_iff_lt, isMut, aFn, List.contains, List.elem, aBox, aField, aLoad, sub, aNil, aPick, aExt, aFld, gd, noJunk, plainOp, aBuildSlice, aBuild, aFill, aParts, seqParts, fitAll, List.range', ↓reduceIte, reduceCtorEq, Nat.reduceEqDiff, Nat.reduceAdd, Nat.reduceLeDiff, Nat.reduceMul, Nat.reduceLT, Nat.reduceBEq, Int.reduceEq, tf_C3_136]
  refine arun_each (σ := Unit) [1000000] [1] l (fun i _ => i ≤ 7 ∧ (l.take i).all Tm.goal = true) (fun i _ => [(2, .bool false), (3, .int .i64 i)]) (fun _ _ => st) (by decide +kernel) ⟨(), ⟨by omega, by simp⟩, LessL.mk (by simp -implicitDefEqProofs only [List.length_map, List.length_map, evb0, evb1, evb2, evb3, evb4, evb5, evb6, evb7, evb8, evb9, ↓evZ2, ↓evZ3, ↓Int.cast_ofNat_Int, implies_true, ne_eq, or_false, false_or, or_self, gt_iff_lt, isMut, aFn, List.contains, List.elem, aBox, aField, aLoad, sub, aNil, aPick, aExt, aFld, gd, noJunk, plainOp, aBuildSlice, aBuild, aFill, aParts, seqParts, fitAll, List.range', ↓reduceIte, reduceCtorEq, Nat.reduceEqDiff, Nat.reduceAdd, Nat.reduceLeDiff, Nat.reduceMul, Nat.reduceLT, Nat.reduceBEq, Int.reduceEq, tf_C3_136])⟩ (fun i x _ hx hlt hlt' hdr hinv => ?_) (fun _ hge hinv => ?_)
  · obtain ⟨i1, i2⟩ := hinv
    have hw := wrap64 (n := (i : Int) + 1) (by omega) (by omega)
    by_cases h7 : i ≤ 6
    · have h7' : decide ((i : Int) ≤ 6) = true := decide_eq_true (by omega)
      have hat := ev_at (av := Tm.av) eI_27 hx (Tm.av_width x)
      simp -implicitDefEqProofs only [hlt', decide_true, beq_self_eq_true, List.length_map, h7', hat, Tm.av_agg, Tm.av_width, evb0, evb1, evb2, evb3, evb4, evb5, evb6, evb7, evb8, evb9, ↓evZ2, ↓evZ3, ↓Int.cast_ofNat_Int, implies_true, ne_eq, or_false, false_or, or_self, gt_iff_lt, isMut, aFn, List.contains, List.elem, aBox, aField, aLoad, sub, aNil, aPick, aExt, aFld, gd, noJunk, plainOp, aBuildSlice, aBuild, aFill, aParts, seqParts, fitAll, List.range', ↓reduceIte, reduceCtorEq, Nat.reduceEqDiff, Nat.reduceAdd, Nat.reduceLeDiff, Nat.reduceMul, Nat.reduceLT, Nat.reduceBEq, Int.reduceEq, tf_C3_136]
      refine (c_spec_GoalValid x st).to ?_
      simp -implicitDefEqProofs only [List.length_map, h7', hat, Tm.av_agg, Tm.av_width, evb0, evb1, evb2, evb3, evb4, evb5, evb6, evb7, evb8, evb9, ↓evZ2, ↓evZ3, ↓Int.cast_ofNat_Int, implies_true, ne_eq, or_false, false_or, or_self, gt_iff_lt, isMut, aFn, List.contains, List.elem, aBox, aField, aLoad, sub, aNil, aPick, aExt, aFld, gd, noJunk, plainOp, aBuildSlice, aBuild, aFill, aParts, seqParts, fitAll, List.range', ↓reduceIte, reduceCtorEq, Nat.reduceEqDiff, Nat.reduceAdd, Nat.reduceLeDiff, Nat.reduceMul, Nat.reduceLT, Nat.reduceBEq, Int.reduceEq, tf_C3_136]
      refine cond_split (fun h2 => ?_) (fun h2 => ?_)
      · simp only [Bool.not_eq_true'] at h2
        simp -implicitDefEqProofs only [List.length_map, h7', hat, Tm.av_agg, Tm.av_width, evb0, evb1, evb2, evb3, evb4, evb5, evb6, evb7, evb8, evb9, ↓evZ2, ↓evZ3, ↓Int.cast_ofNat_Int, implies_true, ne_eq, or_false, false_or, or_self, gt_iff_lt, isMut, aFn, List.contains, List.elem, aBox, aField, aLoad, sub, aNil, aPick, aExt, aFld, gd, noJunk, plainOp, aBuildSlice, aBuild, aFill, aParts, seqParts, fitAll, List.range', ↓reduceIte, reduceCtorEq, Nat.reduceEqDiff, Nat.reduceAdd, Nat.reduceLeDiff, Nat.reduceMul, Nat.reduceLT, Nat.reduceBEq, Int.reduceEq, tf_C3_136]
        have : l.all Tm.goal = false := all_at hx h2
        rw [this]; simp
      · simp only [Bool.not_eq_false'] at h2
        simp -implicitDefEqProofs only [List.length_map, h7', hat, Tm.av_agg, Tm.av_width, evb0, evb1, evb2, evb3, evb4, evb5, evb6, evb7, evb8, evb9, ↓evZ2, ↓evZ3, ↓Int.cast_ofNat_Int, implies_true, ne_eq, or_false, false_or, or_self, gt_iff_lt, isMut, aFn, List.contains, List.elem, aBox, aField, aLoad, sub, aNil, aPick, aExt, aFld, gd, noJunk, plainOp, aBuildSlice, aBuild, aFill, aParts, seqParts, fitAll, List.range', ↓reduceIte, reduceCtorEq, Nat.reduceEqDiff, Nat.reduceAdd, Nat.reduceLeDiff, Nat.reduceMul, Nat.reduceLT, Nat.reduceBEq, Int.reduceEq, tf_C3_136]
        refine ⟨(), ⟨by omega, ?_⟩, LessL.mk (by simp -implicitDefEqProofs only [hw, List.length_map, h7', hat, Tm.av_agg, Tm.av_width, evb0, evb1, evb2, evb3, evb4, evb5, evb6, evb7, evb8, evb9, ↓evZ2, ↓evZ3, ↓Int.cast_ofNat_Int, implies_true, ne_eq, or_false, false_or, or_self, gt_iff_lt, isMut, aFn, List.contains, List.elem, aBox, aField, aLoad, sub, aNil, aPick, aExt, aFld, gd, noJunk, plainOp, aBuildSlice, aBuild, aFill, aParts, seqParts, fitAll, List.range', ↓reduceIte, reduceCtorEq, Nat.reduceEqDiff, Nat.reduceAdd, Nat.reduceLeDiff, Nat.reduceMul, Nat.reduceLT, Nat.reduceBEq, Int.reduceEq, tf_C3_136])⟩
        rw [List.take_add_one, hx, List.all_append, i2]
        simp [h2]
    · have h7' : decide ((i : Int) ≤ 6) = false := decide_eq_false (by omega)
      have h8 : decide ((l.length : Int) ≤ 6) = false := decide_eq_false (by omega)
      rw [← hend (.inr (by omega)), h8]
      simp -implicitDefEqProofs only [hlt', decide_true, beq_self_eq_true, h8, Bool.false_and, List.length_map, h7', evb0, evb1, evb2, evb3, evb4, evb5, evb6, evb7, evb8, evb9, ↓evZ2, ↓evZ3, ↓Int.cast_ofNat_Int, implies_true, ne_eq, or_false, false_or, or_self, gt_iff_lt, isMut, aFn, List.contains, List.elem, aBox, aField, aLoad, sub, aNil, aPick, aExt, aFld, gd, noJunk, plainOp, aBuildSlice, aBuild, aFill, aParts, seqParts, fitAll, List.range', ↓reduceIte, reduceCtorEq, Nat.reduceEqDiff, Nat.reduceAdd, Nat.reduceLeDiff, Nat.reduceMul, Nat.reduceLT, Nat.reduceBEq, Int.reduceEq, tf_C3_136]
  · obtain ⟨i1, i2⟩ := hinv
    rw [List.take_length] at i2
    rw [← hend (.inl i2)]
    cases h8 : decide ((l.length : Int) ≤ 6) with
    | false =>
      simp -implicitDefEqProofs only [hge, List.length_map, h8, Bool.false_and, evb0, evb1, evb2, evb3, evb4, evb5, evb6, evb7, evb8, evb9, ↓evZ2, ↓evZ3, ↓Int.cast_ofNat_Int, implies_true, ne_eq, or_false, false_or, or_self, gt_iff_lt, isMut, aFn, List.contains, List.elem, aBox, aField, aLoad, sub, aNil, aPick, aExt, aFld, gd, noJunk, plainOp, aBuildSlice, aBuild, aFill, aParts, seqParts, fitAll, List.range', ↓reduceIte, reduceCtorEq, Nat.reduceEqDiff, Nat.reduceAdd, Nat.reduceLeDiff, Nat.reduceMul, Nat.reduceLT, Nat.reduceBEq, Int.reduceEq, tf_C3_136]
    | true =>
      simp -implicitDefEqProofs only [hge, beq_self_eq_true, List.length_map, h8, Bool.true_and, evb0, evb1, evb2, evb3, evb4, evb5, evb6, evb7, evb8, evb9, ↓evZ2, ↓evZ3, ↓Int.cast_ofNat_Int, implies_true, ne_eq, or_false, false_or, or_self, gt_iff_lt, isMut, aFn, List.contains, List.elem, aBox, aField, aLoad, sub, aNil, aPick, aExt, aFld, gd, noJunk, plainOp, aBuildSlice, aBuild, aFill, aParts, seqParts, fitAll, List.range', ↓reduceIte, reduceCtorEq, Nat.reduceEqDiff, Nat.reduceAdd, Nat.reduceLeDiff, Nat.reduceMul, Nat.reduceLT, Nat.reduceBEq, Int.reduceEq, tf_C3_136]
      refine (hv _).to ?_
      cases v with
      | false => simp -implicitDefEqProofs only [Bool.false_and, List.length_map, h8, Bool.true_and, evb0, evb1, evb2, evb3, evb4, evb5, evb6, evb7, evb8, evb9, ↓evZ2, ↓evZ3, ↓Int.cast_ofNat_Int, implies_true, ne_eq, or_false, false_or, or_self, gt_iff_lt, isMut, aFn, List.contains, List.elem, aBox, aField, aLoad, sub, aNil, aPick, aExt, aFld, gd, noJunk, plainOp, aBuildSlice, aBuild, aFill, aParts, seqParts, fitAll, List.range', ↓reduceIte, reduceCtorEq, Nat.reduceEqDiff, Nat.reduceAdd, Nat.reduceLeDiff, Nat.reduceMul, Nat.reduceLT, Nat.reduceBEq, Int.reduceEq, tf_C3_136]
      | true =>
        simp -implicitDefEqProofs only [beq_self_eq_true, List.length_map, h8, Bool.true_and, evb0, evb1, evb2, evb3, evb4, evb5, evb6, evb7, evb8, evb9, ↓evZ2, ↓evZ3, ↓Int.cast_ofNat_Int, implies_true, ne_eq, or_false, false_or, or_self, gt_iff_lt, isMut, aFn, List.contains, List.elem, aBox, aField, aLoad, sub, aNil, aPick, aExt, aFld, gd, noJunk, plainOp, aBuildSlice, aBuild, aFill, aParts, seqParts, fitAll, List.range', ↓reduceIte, reduceCtorEq, Nat.reduceEqDiff, Nat.reduceAdd, Nat.reduceLeDiff, Nat.reduceMul, Nat.reduceLT, Nat.reduceBEq, Int.reduceEq, tf_C3_136]
        refine (hp _).to ?_
        simp -implicitDefEqProofs only [List.length_map, h8, Bool.true_and, evb0, evb1, evb2, evb3, evb4, evb5, evb6, evb7, evb8, evb9, ↓evZ2, ↓evZ3, ↓Int.cast_ofNat_Int, implies_true, ne_eq, or_false, false_or, or_self, gt_iff_lt, isMut, aFn, List.contains, List.elem, aBox, aField, aLoad, sub, aNil, aPick, aExt, aFld, gd, noJunk, plainOp, aBuildSlice, aBuild, aFill, aParts, seqParts, fitAll, List.range', ↓reduceIte, reduceCtorEq, Nat.reduceEqDiff, Nat.reduceAdd, Nat.reduceLeDiff, Nat.reduceMul, Nat.reduceLT, Nat.reduceBEq, Int.reduceEq, tf_C3_136]

theorem tf_C3_94 : (type_of% tI_2) ∧ (type_of% zI_2) ∧ (type_of% Go.Proofs.Try.underlying2) ∧ (type_of% tI_3) ∧ (type_of% zI_3) ∧ (type_of% Go.Proofs.Try.underlying3) ∧ (type_of% tI_4) ∧ (type_of% zI_4) ∧ (type_of% Go.Proofs.Try.underlying4) ∧ (type_of% tI_5) ∧ (type_of% zI_5) ∧ (type_of% Go.Proofs.Try.underlying5) ∧ (type_of% tI_6) ∧ (type_of% zI_6) ∧ (type_of% Go.Proofs.Try.underlying6) ∧ (type_of% tI_17) ∧ (type_of% zI_17) ∧ (type_of% tI_18) ∧ (type_of% zI_18) ∧ (type_of% fI_18_0) ∧ (type_of% bI_18) ∧ (type_of% tI_19) ∧ (type_of% zI_19) ∧ (type_of% fI_19_0) ∧ (type_of% bI_19) ∧ (type_of% tI_21) ∧ (type_of% zI_21) ∧ (type_of% Go.Proofs.Try.underlying21) ∧ (type_of% tI_23) ∧ (type_of% zI_23) ∧ (type_of% fI_23_0) ∧ (type_of% bI_23) ∧ (type_of% tI_64) ∧ (type_of% zI_64) ∧ (type_of% fI_64_0) ∧ (type_of% fI_64_1) ∧ (type_of% bI_64) ∧ (type_of% tI_73) ∧ (type_of% zI_73) ∧ (type_of% eI_73) ∧ (type_of% eB_73) ∧ (type_of% eZ_73) ∧ (type_of% Go.Proofs.Try.underlying73) ∧ (type_of% tI_136) ∧ (type_of% zI_136) ∧ (type_of% fI_136_0) ∧ (type_of% fI_136_1) ∧ (type_of% bI_136) := ⟨tI_2, zI_2, Go.Proofs.Try.underlying2, tI_3, zI_3, Go.Proofs.Try.underlying3, tI_4, zI_4, Go.Proofs.Try.underlying4, tI_5, zI_5, Go.Proofs.Try.underlying5, tI_6, zI_6, Go.Proofs.Try.underlying6, tI_17, zI_17, tI_18, zI_18, fI_18_0, bI_18, tI_19, zI_19, fI_19_0, bI_19, tI_21, zI_21, Go.Proofs.Try.underlying21, tI_23, zI_23, fI_23_0, bI_23, tI_64, zI_64, fI_64_0, fI_64_1, bI_64, tI_73, zI_73, eI_73, eB_73, eZ_73, Go.Proofs.Try.underlying73, tI_136, zI_136, fI_136_0, fI_136_1, bI_136⟩
theorem c_spec_ProgramValid (l : List Cl) (st : Store) : ACalls prog 94 [.slice (l.map clAv)] st (fun r st' => r = .bool (progOk l) ∧ st' = st) := by
  refine acalls_fit [1000000] func94 ntmps94 rfl rfl (by kernel_rfl) (by decide +kernel) (by show 1 ≤ _; decide +kernel) ?_
  simp only [fitsL, AV.fits, and_true, List.length_map]
  intro ⟨hl, _⟩
  simp -implicitDefEqProofs only [List.length_map, evb0, evb1, evb2, evb3, evb4, evb5, evb6, evb7, evb8, evb9, ↓evZ2, ↓evZ3, ↓Int.cast_ofNat_Int, implies_true, ne_eq, or_false, false_or, or_self, gt_iff_lt, isMut, aFn, List.contains, List.elem, aBox, aField, aLoad, sub, aNil, aPick, aExt, aFld, gd, noJunk, plainOp, aBuildSlice, aBuild, aFill, aParts, seqParts, fitAll, List.range', ↓reduceIte, reduceCtorEq, Nat.reduceEqDiff, Nat.reduceAdd, Nat.reduceLeDiff, Nat.reduceMul, Nat.reduceLT, Nat.reduceBEq, Int.reduceEq, tf_C3_94]
  refine arun_each (σ := Unit) [1000000] [0] l (fun i _ => i ≤ 21 ∧ (l.take i).all clOk = true) (fun i _ => [(2, .bool false), (3, .int .i64 i)]) (fun _ _ => st) (by decide +kernel) ⟨(), ⟨by omega, by simp⟩, LessL.mk (by simp -implicitDefEqProofs only [List.length_map, List.length_map, evb0, evb1, evb2, evb3, evb4, evb5, evb6, evb7, evb8, evb9, ↓evZ2, ↓evZ3, ↓Int.cast_ofNat_Int, implies_true, ne_eq, or_false, false_or, or_self, gt_iff_lt, isMut, aFn, List.contains, List.elem, aBox, aField, aLoad, sub, aNil, aPick, aExt, aFld, gd, noJunk, plainOp, aBuildSlice, aBuild, aFill, aParts, seqParts, fitAll, List.range', ↓reduceIte, reduceCtorEq, Nat.reduceEqDiff, Nat.reduceAdd, Nat.reduceLeDiff, Nat.reduceMul, Nat.reduceLT, Nat.reduceBEq, Int.reduceEq, tf_C3_94])⟩ (fun i x _ hx hlt hlt' hdr hinv => ?_) (fun _ hge hinv => ?_)
  · obtain ⟨i1, i2⟩ := hinv
    have hw := wrap64 (n := (i : Int) + 1) (by omega) (by omega)
    by_cases h7 : i ≤ 20
    · have h7' : decide ((i : Int) ≤ 20) = true := decide_eq_true (by omega)
      have hat := ev_at (av := clAv) eI_73 hx (clAv_width x)
      simp -implicitDefEqProofs only [hlt', decide_true, beq_self_eq_true, List.length_map, h7', hat, clAv_agg, clAv_width, evb0, evb1, evb2, evb3, evb4, evb5, evb6, evb7, evb8, evb9, ↓evZ2, ↓evZ3, ↓Int.cast_ofNat_Int, implies_true, ne_eq, or_false, false_or, or_self, gt_iff_lt, isMut, aFn, List.contains, List.elem, aBox, aField, aLoad, sub, aNil, aPick, aExt, aFld, gd, noJunk, plainOp, aBuildSlice, aBuild, aFill, aParts, seqParts, fitAll, List.range', ↓reduceIte, reduceCtorEq, Nat.reduceEqDiff, Nat.reduceAdd, Nat.reduceLeDiff, Nat.reduceMul, Nat.reduceLT, Nat.reduceBEq, Int.reduceEq, tf_C3_94]
      refine (c_spec_ClauseValid x st).to ?_
      simp -implicitDefEqProofs only [List.length_map, h7', hat, clAv_agg, clAv_width, evb0, evb1, evb2, evb3, evb4, evb5, evb6, evb7, evb8, evb9, ↓evZ2, ↓evZ3, ↓Int.cast_ofNat_Int, implies_true, ne_eq, or_false, false_or, or_self, gt_iff_lt, isMut, aFn, List.contains, List.elem, aBox, aField, aLoad, sub, aNil, aPick, aExt, aFld, gd, noJunk, plainOp, aBuildSlice, aBuild, aFill, aParts, seqParts, fitAll, List.range', ↓reduceIte, reduceCtorEq, Nat.reduceEqDiff, Nat.reduceAdd, Nat.reduceLeDiff, Nat.reduceMul, Nat.reduceLT, Nat.reduceBEq, Int.reduceEq, tf_C3_94]
      refine cond_split (fun h2 => ?_) (fun h2 => ?_)
      · simp only [Bool.not_eq_true'] at h2
        simp -implicitDefEqProofs only [List.length_map, h7', hat, clAv_agg, clAv_width, evb0, evb1, evb2, evb3, evb4, evb5, evb6, evb7, evb8, evb9, ↓evZ2, ↓evZ3, ↓Int.cast_ofNat_Int, implies_true, ne_eq, or_false, false_or, or_self, gt_iff_lt, isMut, aFn, List.contains, List.elem, aBox, aField, aLoad, sub, aNil, aPick, aExt, aFld, gd, noJunk, plainOp, aBuildSlice, aBuild, aFill, aParts, seqParts, fitAll, List.range', ↓reduceIte, reduceCtorEq, Nat.reduceEqDiff, Nat.reduceAdd, Nat.reduceLeDiff, Nat.reduceMul, Nat.reduceLT, Nat.reduceBEq, Int.reduceEq, tf_C3_94]
        have : l.all clOk = false := all_at hx h2
        simp only [progOk, this, Bool.and_false]
      · simp only [Bool.not_eq_false'] at h2
        simp -implicitDefEqProofs only [List.length_map, h7', hat, clAv_agg, clAv_width, evb0, evb1, evb2, evb3, evb4, evb5, evb6, evb7, evb8, evb9, ↓evZ2, ↓evZ3, ↓Int.cast_ofNat_Int, implies_true, ne_eq, or_false, false_or, or_self, gt_iff_lt, isMut, aFn, List.contains, List.elem, aBox, aField, aLoad, sub, aNil, aPick, aExt, aFld, gd, noJunk, plainOp, aBuildSlice, aBuild, aFill, aParts, seqParts, fitAll, List.range', ↓reduceIte, reduceCtorEq, Nat.reduceEqDiff, Nat.reduceAdd, Nat.reduceLeDiff, Nat.reduceMul, Nat.reduceLT, Nat.reduceBEq, Int.reduceEq, tf_C3_94]
        refine ⟨(), ⟨by omega, ?_⟩, LessL.mk (by simp -implicitDefEqProofs only [hw, List.length_map, h7', hat, clAv_agg, clAv_width, evb0, evb1, evb2, evb3, evb4, evb5, evb6, evb7, evb8, evb9, ↓evZ2, ↓evZ3, ↓Int.cast_ofNat_Int, implies_true, ne_eq, or_false, false_or, or_self, gt_iff_lt, isMut, aFn, List.contains, List.elem, aBox, aField, aLoad, sub, aNil, aPick, aExt, aFld, gd, noJunk, plainOp, aBuildSlice, aBuild, aFill, aParts, seqParts, fitAll, List.range', ↓reduceIte, reduceCtorEq, Nat.reduceEqDiff, Nat.reduceAdd, Nat.reduceLeDiff, Nat.reduceMul, Nat.reduceLT, Nat.reduceBEq, Int.reduceEq, tf_C3_94])⟩
        rw [List.take_add_one, hx, List.all_append, i2]
        simp [h2]
    · have h7' : decide ((i : Int) ≤ 20) = false := decide_eq_false (by omega)
      have h8 : decide ((l.length : Int) ≤ 20) = false := decide_eq_false (by omega)
      have h9 : decide (l.length ≤ 20) = false := decide_eq_false (by omega)
      simp -implicitDefEqProofs only [hlt', decide_true, beq_self_eq_true, List.length_map, h7', h8, progOk, h9, Bool.false_and, evb0, evb1, evb2, evb3, evb4, evb5, evb6, evb7, evb8, evb9, ↓evZ2, ↓evZ3, ↓Int.cast_ofNat_Int, implies_true, ne_eq, or_false, false_or, or_self, gt_iff_lt, isMut, aFn, List.contains, List.elem, aBox, aField, aLoad, sub, aNil, aPick, aExt, aFld, gd, noJunk, plainOp, aBuildSlice, aBuild, aFill, aParts, seqParts, fitAll, List.range', ↓reduceIte, reduceCtorEq, Nat.reduceEqDiff, Nat.reduceAdd, Nat.reduceLeDiff, Nat.reduceMul, Nat.reduceLT, Nat.reduceBEq, Int.reduceEq, tf_C3_94]
  · obtain ⟨i1, i2⟩ := hinv
    rw [List.take_length] at i2
    simp -implicitDefEqProofs only [hge, List.length_map, evb0, evb1, evb2, evb3, evb4, evb5, evb6, evb7, evb8, evb9, ↓evZ2, ↓evZ3, ↓Int.cast_ofNat_Int, implies_true, ne_eq, or_false, false_or, or_self, gt_iff_lt, isMut, aFn, List.contains, List.elem, aBox, aField, aLoad, sub, aNil, aPick, aExt, aFld, gd, noJunk, plainOp, aBuildSlice, aBuild, aFill, aParts, seqParts, fitAll, List.range', ↓reduceIte, reduceCtorEq, Nat.reduceEqDiff, Nat.reduceAdd, Nat.reduceLeDiff, Nat.reduceMul, Nat.reduceLT, Nat.reduceBEq, Int.reduceEq, tf_C3_94]
    simp only [progOk, i2, Bool.and_true, AV.bool.injEq, decide_eq_decide]
    omega
end Go.AW


/- Terms that share nothing: what the program's functions return. -/
namespace Go.AW
open Go.Proofs.Try
set_option linter.unusedSimpArgs false
set_option maxRecDepth 100000

mutual
/-- No list is long. -/
def Tm.small : Tm → Bool
  | .mk _ _ _ ts => decide (ts.length ≤ 1048576) && tmsSmall ts
def tmsSmall : List Tm → Bool
  | [] => true
  | t :: ts => t.small && tmsSmall ts
end
theorem tmsSmall_all : ∀ (ts : List Tm), tmsSmall ts = ts.all Tm.small
  | [] => rfl
  | t :: ts => by simp only [tmsSmall, List.all_cons, tmsSmall_all ts]
theorem Tm.small_mk {k n : Int} {s : ByteArray} {ts : List Tm} (h : (Tm.mk k n s ts).small = true) : ts.length ≤ 1048576 ∧ ∀ x ∈ ts, x.small = true := by
  simpa [Tm.small, tmsSmall_all] using h

theorem tf_V3_65 : (type_of% tI_2) ∧ (type_of% zI_2) ∧ (type_of% Go.Proofs.Try.underlying2) ∧ (type_of% tI_3) ∧ (type_of% zI_3) ∧ (type_of% Go.Proofs.Try.underlying3) ∧ (type_of% tI_4) ∧ (type_of% zI_4) ∧ (type_of% Go.Proofs.Try.underlying4) ∧ (type_of% tI_5) ∧ (type_of% zI_5) ∧ (type_of% Go.Proofs.Try.underlying5) ∧ (type_of% tI_6) ∧ (type_of% zI_6) ∧ (type_of% Go.Proofs.Try.underlying6) ∧ (type_of% tI_7) ∧ (type_of% zI_7) ∧ (type_of% fI_7_0) ∧ (type_of% fI_7_1) ∧ (type_of% fI_7_2) ∧ (type_of% fI_7_3) ∧ (type_of% bI_7) ∧ (type_of% tI_8) ∧ (type_of% zI_8) ∧ (type_of% fI_8_0) ∧ (type_of% fI_8_1) ∧ (type_of% fI_8_2) ∧ (type_of% fI_8_3) ∧ (type_of% bI_8) ∧ (type_of% tI_12) ∧ (type_of% zI_12) ∧ (type_of% Go.Proofs.Try.underlying12) ∧ (type_of% tI_13) ∧ (type_of% zI_13) ∧ (type_of% fI_13_0) ∧ (type_of% fI_13_1) ∧ (type_of% bI_13) ∧ (type_of% tI_14) ∧ (type_of% zI_14) ∧ (type_of% fI_14_0) ∧ (type_of% fI_14_1) ∧ (type_of% bI_14) ∧ (type_of% tI_15) ∧ (type_of% zI_15) ∧ (type_of% tI_16) ∧ (type_of% zI_16) ∧ (type_of% tI_17) ∧ (type_of% zI_17) ∧ (type_of% tI_19) ∧ (type_of% zI_19) ∧ (type_of% fI_19_0) ∧ (type_of% bI_19) ∧ (type_of% tI_27) ∧ (type_of% zI_27) ∧ (type_of% eI_27) ∧ (type_of% eB_27) ∧ (type_of% eZ_27) ∧ (type_of% Go.Proofs.Try.underlying27) ∧ (type_of% tI_41) ∧ (type_of% zI_41) ∧ (type_of% fI_41_0) ∧ (type_of% fI_41_1) ∧ (type_of% fI_41_2) ∧ (type_of% fI_41_3) ∧ (type_of% bI_41) ∧ (type_of% tI_64) ∧ (type_of% zI_64) ∧ (type_of% fI_64_0) ∧ (type_of% fI_64_1) ∧ (type_of% bI_64) ∧ (type_of% tI_75) ∧ (type_of% zI_75) ∧ (type_of% fI_75_0) ∧ (type_of% fI_75_1) ∧ (type_of% fI_75_2) ∧ (type_of% fI_75_3) ∧ (type_of% fI_75_4) ∧ (type_of% fI_75_5) ∧ (type_of% bI_75) ∧ (type_of% tI_92) ∧ (type_of% zI_92) ∧ (type_of% fI_92_0) ∧ (type_of% fI_92_1) ∧ (type_of% fI_92_2) ∧ (type_of% fI_92_3) ∧ (type_of% bI_92) ∧ (type_of% tI_93) ∧ (type_of% zI_93) ∧ (type_of% eI_93) ∧ (type_of% eB_93) ∧ (type_of% eZ_93) ∧ (type_of% Go.Proofs.Try.underlying93) := ⟨tI_2, zI_2, Go.Proofs.Try.underlying2, tI_3, zI_3, Go.Proofs.Try.underlying3, tI_4, zI_4, Go.Proofs.Try.underlying4, tI_5, zI_5, Go.Proofs.Try.underlying5, tI_6, zI_6, Go.Proofs.Try.underlying6, tI_7, zI_7, fI_7_0, fI_7_1, fI_7_2, fI_7_3, bI_7, tI_8, zI_8, fI_8_0, fI_8_1, fI_8_2, fI_8_3, bI_8, tI_12, zI_12, Go.Proofs.Try.underlying12, tI_13, zI_13, fI_13_0, fI_13_1, bI_13, tI_14, zI_14, fI_14_0, fI_14_1, bI_14, tI_15, zI_15, tI_16, zI_16, tI_17, zI_17, tI_19, zI_19, fI_19_0, bI_19, tI_27, zI_27, eI_27, eB_27, eZ_27, Go.Proofs.Try.underlying27, tI_41, zI_41, fI_41_0, fI_41_1, fI_41_2, fI_41_3, bI_41, tI_64, zI_64, fI_64_0, fI_64_1, bI_64, tI_75, zI_75, fI_75_0, fI_75_1, fI_75_2, fI_75_3, fI_75_4, fI_75_5, bI_75, tI_92, zI_92, fI_92_0, fI_92_1, fI_92_2, fI_92_3, bI_92, tI_93, zI_93, eI_93, eB_93, eZ_93, Go.Proofs.Try.underlying93⟩
theorem o_ownList (l : List Tm) (st : Store) (hb : l.length ≤ 1048576) (hc : ∀ x ∈ l, ∀ (st : Store), ACalls prog 75 [Tm.av x] st (Made st (Tm.av x))) :
    ACalls prog 65 [.slice (l.map Tm.av)] st (Made st (.slice (l.map Tm.av))) := by
  have hws : ∀ e ∈ l.map Tm.av, e.width = 4 := fun e he => by simp only [List.mem_map] at he; obtain ⟨t, _, rfl⟩ := he; exact Tm.av_width t
  refine acalls_fit [] func65 ntmps65 rfl rfl (by kernel_rfl) (by decide +kernel) (by show 1 ≤ _; decide +kernel) ?_
  intro _
  simp -implicitDefEqProofs only [List.length_map, evb0, evb1, evb2, evb3, evb4, evb5, evb6, evb7, evb8, evb9, ↓evZ2, ↓evZ3, ↓Int.cast_ofNat_Int, implies_true, ne_eq, or_false, false_or, or_self, gt_iff_lt, isMut, aFn, List.contains, List.elem, aBox, aField, aLoad, sub, aNil, aPick, aExt, aFld, gd, noJunk, plainOp, aBuildSlice, aBuild, aFill, aParts, seqParts, fitAll, List.range', ↓reduceIte, reduceCtorEq, Nat.reduceEqDiff, Nat.reduceAdd, Nat.reduceLeDiff, Nat.reduceMul, Nat.reduceLT, Nat.reduceBEq, Int.reduceEq, tf_V3_65]
  refine arun_each (σ := List AV × List Nat × Nat × Store) [] [2, 6, 7] l (fun i p => GrowTo (l.map Tm.av) st i p.1 p.2.1 p.2.2.1 p.2.2.2) (fun i p => [(3, accV 4 p.2.2.1 p.1), (8, .int .i64 i)]) (fun _ p => p.2.2.2) (by decide +kernel)
    ⟨([], [], 0, st), GrowTo.start, LessL.mk (by simp -implicitDefEqProofs only [accV_nil, evb0, evb1, evb2, evb3, evb4, evb5, evb6, evb7, evb8, evb9, ↓evZ2, ↓evZ3, ↓Int.cast_ofNat_Int, implies_true, ne_eq, or_false, false_or, or_self, gt_iff_lt, isMut, aFn, List.contains, List.elem, aBox, aField, aLoad, sub, aNil, aPick, aExt, aFld, gd, noJunk, plainOp, aBuildSlice, aBuild, aFill, aParts, seqParts, fitAll, List.range', ↓reduceIte, reduceCtorEq, Nat.reduceEqDiff, Nat.reduceAdd, Nat.reduceLeDiff, Nat.reduceMul, Nat.reduceLT, Nat.reduceBEq, Int.reduceEq, tf_V3_65])⟩ (fun i x p hx hlt hlt' hdr hinv => ?_) (fun p hge hinv => ?_)
  case refine_2 =>
    obtain ⟨os, bs, b, s⟩ := p
    simp -implicitDefEqProofs only [List.length_map, hge, evb0, evb1, evb2, evb3, evb4, evb5, evb6, evb7, evb8, evb9, ↓evZ2, ↓evZ3, ↓Int.cast_ofNat_Int, implies_true, ne_eq, or_false, false_or, or_self, gt_iff_lt, isMut, aFn, List.contains, List.elem, aBox, aField, aLoad, sub, aNil, aPick, aExt, aFld, gd, noJunk, plainOp, aBuildSlice, aBuild, aFill, aParts, seqParts, fitAll, List.range', ↓reduceIte, reduceCtorEq, Nat.reduceEqDiff, Nat.reduceAdd, Nat.reduceLeDiff, Nat.reduceMul, Nat.reduceLT, Nat.reduceBEq, Int.reduceEq, tf_V3_65]
    exact hinv.done (List.length_map _) hws
  obtain ⟨os, bs, b, s⟩ := p
  simp only at hinv
  have hw := wrap64 (n := (i : Int) + 1) (by omega) (by omega)
  have hset : ∀ zs : List AV, zs.length = 4 → setCells zs 0 (Tm.av x).cells = (Tm.av x).cells := fun zs h => set_all (Tm.av_cells x) h
  simp -implicitDefEqProofs only [List.length_map, hlt', ev_at (av := Tm.av) eI_27 hx (Tm.av_width x), Tm.av_agg, Tm.av_width, Tm.av_cells, Tm.av_store, Store.upd_upd, hset, evb0, evb1, evb2, evb3, evb4, evb5, evb6, evb7, evb8, evb9, ↓evZ2, ↓evZ3, ↓Int.cast_ofNat_Int, implies_true, ne_eq, or_false, false_or, or_self, gt_iff_lt, isMut, aFn, List.contains, List.elem, aBox, aField, aLoad, sub, aNil, aPick, aExt, aFld, gd, noJunk, plainOp, aBuildSlice, aBuild, aFill, aParts, seqParts, fitAll, List.range', ↓reduceIte, reduceCtorEq, Nat.reduceEqDiff, Nat.reduceAdd, Nat.reduceLeDiff, Nat.reduceMul, Nat.reduceLT, Nat.reduceBEq, Int.reduceEq, tf_V3_65]
  intro b2 hb2
  try simp -implicitDefEqProofs only [su_eq, Tm.av_cells, take_all (Tm.av_cells x), agg_cells (Tm.av_agg x), Nat.le_refl, hset, Store.upd_upd, Tm.av_store, evb0, evb1, evb2, evb3, evb4, evb5, evb6, evb7, evb8, evb9, ↓evZ2, ↓evZ3, ↓Int.cast_ofNat_Int, implies_true, ne_eq, or_false, false_or, or_self, gt_iff_lt, isMut, aFn, List.contains, List.elem, aBox, aField, aLoad, sub, aNil, aPick, aExt, aFld, gd, noJunk, plainOp, aBuildSlice, aBuild, aFill, aParts, seqParts, fitAll, List.range', ↓reduceIte, reduceCtorEq, Nat.reduceEqDiff, Nat.reduceAdd, Nat.reduceLeDiff, Nat.reduceMul, Nat.reduceLT, Nat.reduceBEq, Int.reduceEq, tf_V3_65]
  refine (hc x (List.mem_of_getElem? hx) _).mono ?_
  rintro r s2 ⟨bx, m1, m2, m3, m4⟩
  obtain ⟨f1, f2, f3⟩ := m3.cellsFit (Tm.av_width x) (Tm.av_store x)
  have hra : r.isAgg = true := by rw [(Own.shape m3).1, Tm.av_agg]
  have hrj : r.isJunk = false := (Own.shape m3).2.2.1
  simp -implicitDefEqProofs only [f1, hra, hrj, evb0, evb1, evb2, evb3, evb4, evb5, evb6, evb7, evb8, evb9, ↓evZ2, ↓evZ3, ↓Int.cast_ofNat_Int, implies_true, ne_eq, or_false, false_or, or_self, gt_iff_lt, isMut, aFn, List.contains, List.elem, aBox, aField, aLoad, sub, aNil, aPick, aExt, aFld, gd, noJunk, plainOp, aBuildSlice, aBuild, aFill, aParts, seqParts, fitAll, List.range', ↓reduceIte, reduceCtorEq, Nat.reduceEqDiff, Nat.reduceAdd, Nat.reduceLeDiff, Nat.reduceMul, Nat.reduceLT, Nat.reduceBEq, Int.reduceEq, tf_V3_65]
  have hlen : os.length = i := hinv.1
  have hosw : ∀ e ∈ os, e.width = 4 := fun e he => by
    obtain ⟨k, hk, rfl⟩ := List.getElem_of_mem he
    exact hinv.2.1.widths (fun q hq => hws q (List.mem_of_mem_take hq)) _ he
  have hkb : os ≠ [] → s2 b = some (.cells (os.flatMap AV.cells)) := fun hne => by
    have h := (hinv.2.2.2.2.1 hne).2.2
    have hbx : b ∉ bx := fun hq => by
      have := m2 b hq
      have hne2 : b ≠ b2 := fun e => by rw [e, hb2] at h; cases h
      rw [Store.upd_ne _ _ hne2, h] at this; cases this
    have hne2 : b ≠ b2 := fun e => by rw [e, hb2] at h; cases h
    rw [m4 b hbx, Store.upd_ne _ _ hne2, h]
  refine acc_appendG eI_27 eB_27 eZ_27 rfl rfl (by intro e he; simp only [List.mem_cons, List.not_mem_nil, or_false] at he; subst he; exact ⟨f1, f3⟩) hosw hkb (by simp only [List.length_cons, List.length_nil, hlen]; omega) (by simp only [List.length_cons, List.length_nil, hlen]; omega) (fun b' s' k1 k2 k3 k4 => ?_)
  have hstep := hinv.step hb2 (show (l.map Tm.av)[i]? = some (Tm.av x) by rw [List.getElem?_map, hx]; rfl) m1 m2 m3 m4 (k1 (by simp)) (k2 (by simp)) (fun q h1 h2 => k3 q (fun _ => h1) h2) k4
  simp -implicitDefEqProofs only [hw, evb0, evb1, evb2, evb3, evb4, evb5, evb6, evb7, evb8, evb9, ↓evZ2, ↓evZ3, ↓Int.cast_ofNat_Int, implies_true, ne_eq, or_false, false_or, or_self, gt_iff_lt, isMut, aFn, List.contains, List.elem, aBox, aField, aLoad, sub, aNil, aPick, aExt, aFld, gd, noJunk, plainOp, aBuildSlice, aBuild, aFill, aParts, seqParts, fitAll, List.range', ↓reduceIte, reduceCtorEq, Nat.reduceEqDiff, Nat.reduceAdd, Nat.reduceLeDiff, Nat.reduceMul, Nat.reduceLT, Nat.reduceBEq, Int.reduceEq, tf_V3_65]
  exact ⟨(os ++ [r], bs ++ bx, b', s'.erase b2), hstep, LessL.drop (Drops.erase' _ _) (by simp -implicitDefEqProofs only [evb0, evb1, evb2, evb3, evb4, evb5, evb6, evb7, evb8, evb9, ↓evZ2, ↓evZ3, ↓Int.cast_ofNat_Int, implies_true, ne_eq, or_false, false_or, or_self, gt_iff_lt, isMut, aFn, List.contains, List.elem, aBox, aField, aLoad, sub, aNil, aPick, aExt, aFld, gd, noJunk, plainOp, aBuildSlice, aBuild, aFill, aParts, seqParts, fitAll, List.range', ↓reduceIte, reduceCtorEq, Nat.reduceEqDiff, Nat.reduceAdd, Nat.reduceLeDiff, Nat.reduceMul, Nat.reduceLT, Nat.reduceBEq, Int.reduceEq, tf_V3_65])⟩


theorem tf_V3_75 : (type_of% tI_2) ∧ (type_of% zI_2) ∧ (type_of% Go.Proofs.Try.underlying2) ∧ (type_of% tI_3) ∧ (type_of% zI_3) ∧ (type_of% Go.Proofs.Try.underlying3) ∧ (type_of% tI_4) ∧ (type_of% zI_4) ∧ (type_of% Go.Proofs.Try.underlying4) ∧ (type_of% tI_5) ∧ (type_of% zI_5) ∧ (type_of% Go.Proofs.Try.underlying5) ∧ (type_of% tI_8) ∧ (type_of% zI_8) ∧ (type_of% fI_8_0) ∧ (type_of% fI_8_1) ∧ (type_of% fI_8_2) ∧ (type_of% fI_8_3) ∧ (type_of% bI_8) ∧ (type_of% tI_27) ∧ (type_of% zI_27) ∧ (type_of% eI_27) ∧ (type_of% eB_27) ∧ (type_of% eZ_27) ∧ (type_of% Go.Proofs.Try.underlying27) ∧ (type_of% tI_41) ∧ (type_of% zI_41) ∧ (type_of% fI_41_0) ∧ (type_of% fI_41_1) ∧ (type_of% fI_41_2) ∧ (type_of% fI_41_3) ∧ (type_of% bI_41) := ⟨tI_2, zI_2, Go.Proofs.Try.underlying2, tI_3, zI_3, Go.Proofs.Try.underlying3, tI_4, zI_4, Go.Proofs.Try.underlying4, tI_5, zI_5, Go.Proofs.Try.underlying5, tI_8, zI_8, fI_8_0, fI_8_1, fI_8_2, fI_8_3, bI_8, tI_27, zI_27, eI_27, eB_27, eZ_27, Go.Proofs.Try.underlying27, tI_41, zI_41, fI_41_0, fI_41_1, fI_41_2, fI_41_3, bI_41⟩
theorem o_own : ∀ (t : Tm) (st : Store), t.small = true → ACalls prog 75 [t.av] st (Made st t.av)
  | .mk k n s ts, st, hb => by
    obtain ⟨hb1, hb2⟩ := Tm.small_mk hb
    have hc := fun st => o_ownList ts st hb1 fun x hx st => o_own x st (hb2 x hx)
    refine ACalls.madeJ ?_
    refine acalls_fit [1] func75 ntmps75 rfl rfl (by kernel_rfl) (by decide +kernel) (by show 1 ≤ _; decide +kernel) ?_
    intro _
    simp only [Tm.av_mk]
    simp -implicitDefEqProofs only [evb0, evb1, evb2, evb3, evb4, evb5, evb6, evb7, evb8, evb9, ↓evZ2, ↓evZ3, ↓Int.cast_ofNat_Int, implies_true, ne_eq, or_false, false_or, or_self, gt_iff_lt, isMut, aFn, List.contains, List.elem, aBox, aField, aLoad, sub, aNil, aPick, aExt, aFld, gd, noJunk, plainOp, aBuildSlice, aBuild, aFill, aParts, seqParts, fitAll, List.range', ↓reduceIte, reduceCtorEq, Nat.reduceEqDiff, Nat.reduceAdd, Nat.reduceLeDiff, Nat.reduceMul, Nat.reduceLT, Nat.reduceBEq, Int.reduceEq, tf_V3_75]
    intro b hb1' b2 hb2'
    have hne : b2 ≠ b := by rintro rfl; rw [Store.upd_same] at hb2'; cases hb2'
    have hn2 : st b2 = none := by rw [Store.upd_ne st _ hne] at hb2'; exact hb2'
    simp -implicitDefEqProofs only [su_eq, hne, hne.symm, setCells, Store.upd_upd, evb0, evb1, evb2, evb3, evb4, evb5, evb6, evb7, evb8, evb9, ↓evZ2, ↓evZ3, ↓Int.cast_ofNat_Int, implies_true, ne_eq, or_false, false_or, or_self, gt_iff_lt, isMut, aFn, List.contains, List.elem, aBox, aField, aLoad, sub, aNil, aPick, aExt, aFld, gd, noJunk, plainOp, aBuildSlice, aBuild, aFill, aParts, seqParts, fitAll, List.range', ↓reduceIte, reduceCtorEq, Nat.reduceEqDiff, Nat.reduceAdd, Nat.reduceLeDiff, Nat.reduceMul, Nat.reduceLT, Nat.reduceBEq, Int.reduceEq, tf_V3_75]
    refine (hc _).mono ?_
    rintro q s2 ⟨bs, m1, m2, m3, m4⟩
    have hbb : b ∉ bs := fun h => by have := m2 b h; simp [su_eq, hne, hne.symm] at this
    have hbb2 : b2 ∉ bs := fun h => by have := m2 b2 h; simp [su_eq] at this
    have e1 := m4 b hbb
    have e2 := m4 b2 hbb2
    simp only [su_eq, hne, hne.symm, if_true, if_false] at e1 e2
    have hqc : q.cells = [q] := by have := (Own.shape m3).1; cases q <;> first | rfl | simp [AV.isAgg] at this
    have hqs : q.storable = true := by
      have := m3
      simp only [Own] at this
      rcases this with ⟨_, rfl, _⟩ | ⟨_, _, _, _, rfl, _⟩ <;> rfl
    simp -implicitDefEqProofs only [su_eq, hne, hne.symm, e1, e2, hqc, hqs, setCells, Store.upd_upd, evb0, evb1, evb2, evb3, evb4, evb5, evb6, evb7, evb8, evb9, ↓evZ2, ↓evZ3, ↓Int.cast_ofNat_Int, implies_true, ne_eq, or_false, false_or, or_self, gt_iff_lt, isMut, aFn, List.contains, List.elem, aBox, aField, aLoad, sub, aNil, aPick, aExt, aFld, gd, noJunk, plainOp, aBuildSlice, aBuild, aFill, aParts, seqParts, fitAll, List.range', ↓reduceIte, reduceCtorEq, Nat.reduceEqDiff, Nat.reduceAdd, Nat.reduceLeDiff, Nat.reduceMul, Nat.reduceLT, Nat.reduceBEq, Int.reduceEq, tf_V3_75]
    refine ⟨[b, b2], bs, m1, fun x hx => ?_, ?_, ?_, ?_⟩
    · have := m2 x hx
      have h1 : x ≠ b := fun e => hbb (e ▸ hx)
      have h2 : x ≠ b2 := fun e => hbb2 (e ▸ hx)
      simpa [su_eq, h1, h2] using this
    · simp [hb1', hn2, hbb, hbb2]
    · rw [← Tm.av_mk]
      refine own_Tm.2 ⟨q, rfl, Own.keep _ _ _ (fun x hx => ?_) m3⟩
      have h1 : x ≠ b := fun e => hbb (e ▸ hx)
      have h2 : x ≠ b2 := fun e => hbb2 (e ▸ hx)
      simp only [su_eq, h1, h2, if_false]
    · intro x hx hd
      simp only [List.mem_cons, List.not_mem_nil, or_false, not_or] at hd
      simp only [su_eq, hd.1, hd.2, if_false]
      rw [m4 x hx]
      simp only [su_eq, hd.1, hd.2, if_false]
termination_by t => SizeOf.sizeOf t
decreasing_by have := List.sizeOf_lt_of_mem hx; simp only [Tm.mk.sizeOf_spec]; omega
end Go.AW

/- What the laws on exact results need: held values beside one another. -/
namespace Go.AW
set_option linter.unusedSimpArgs false
set_option linter.unusedVariables false

/-- Several results, each held. -/
def MadeT (st : Store) (xs : List AV) (r : AV) (st' : Store) : Prop := ∃ (os : List AV) (bs : List Nat), r = .tup os ∧ bs.Nodup ∧ (∀ b ∈ bs, st b = none) ∧ OwnL st' xs os bs ∧ ∀ b, b ∉ bs → st' b = st b

theorem OwnL.viewT {h : Heap} {st s0 : Store} (S : SRel h st) (D : Drops st s0) : ∀ (xs os : List AV) (bs : List Nat) (vs : List Value), OwnL st xs os bs → (∀ b ∈ bs, s0 b = none) → VTs h st os vs → VTs h s0 xs vs
  | [], os, bs, vs, x, _, y => by simp only [OwnL] at x; rw [x.1] at y; exact y
  | a :: xs, os, bs, vs, x, hb, y => by
    simp only [OwnL] at x
    obtain ⟨o, os', b1, b2, rfl, rfl, x1, x2⟩ := x
    simp only [VTs] at y ⊢
    obtain ⟨v, r, e, ⟨y0, y1⟩, y2⟩ := y
    exact ⟨v, r, e, ⟨x1.shape.1.symm.trans y0, Own.view S D a o b1 _ x1 (fun q hq => hb q (by simp [hq])) y1⟩, OwnL.viewT S D xs os' b2 r x2 (fun q hq => hb q (by simp [hq])) y2⟩

theorem ACalls.madeT {P : Program} {g : FuncId} {args : List AV} {st : Store} {xs : List AV} (x : ACalls P g args st (MadeT st xs)) : ACalls P g args st (fun r st' => r = .tup xs ∧ st' = st) :=
  x.weak fun r st' ⟨os, bs, hr, _, h2, h3, h4⟩ => by
    have D : Drops st' st := fun b => ⟨fun e => by
      by_cases hb : b ∈ bs
      · exact h2 b hb
      · rw [← h4 b hb]; exact e, fun o e => by
      by_cases hb : b ∈ bs
      · rw [h2 b hb] at e; cases e
      · rw [h4 b hb]; exact e⟩
    refine ⟨.tup xs, st, D.weakS, fun h v S y => ?_, rfl, rfl⟩
    subst hr
    obtain ⟨y0, y1⟩ := y
    refine ⟨y0, ?_⟩
    unfold VC at y1 ⊢
    obtain ⟨vs, e, y2⟩ := y1
    exact ⟨vs, e, OwnL.viewT S D xs os bs vs h3 h2 y2⟩

theorem ACalls.seeMadeT {P : Program} {g : FuncId} {args args' : List AV} {st : Store} {xs : List AV} (x : ∀ s, ACalls P g args s (MadeT s xs)) (hv : Seen st none0' args' args) : ACalls P g args' st (MadeT st xs) := by
  refine ACalls.frame (Drops.none0' st) ((x none0').mono ?_) (Seen.rel (Drops.none0' st) hv)
  rintro r s1 ⟨os, bs, hr, h1, _, h3, h4⟩ hfr
  have hso := OwnL.solid _ _ _ h3
  have hbs : ∀ b ∈ bs, st b = none := fun b hb => hfr b rfl (by
    obtain ⟨cs, e, _⟩ := hso.2 b hb
    rw [e]; simp)
  have hfb : ∀ b ∈ bs, (st.frame none0' s1) b = s1 b := fun b hb => by simp only [Store.frame, hbs b hb]; split <;> simp_all
  refine ⟨by rw [hr]; unfold AV.solid; exact hso.1.1, fun b o e => ?_, os, bs, hr, h1, hbs, OwnL.keep _ _ _ hfb h3, fun b hb => ?_⟩
  · by_cases hb : b ∈ bs
    · obtain ⟨cs, e2, hs⟩ := hso.2 b hb
      rw [e] at e2; cases e2; exact hs
    · rw [h4 b hb] at e; cases e
  · have := h4 b hb
    simp only [Store.frame, none0'] at this ⊢
    cases hst : st b with
    | none => exact this
    | some o => rfl

/-! ### Beside one another -/
def Apart (b1 b2 : List Nat) : Prop := ∀ b ∈ b1, b ∉ b2
theorem Apart.symm {b1 b2 : List Nat} (h : Apart b1 b2) : Apart b2 b1 := fun b h2 h1 => h b h1 h2
theorem Own.somes {s : Store} {a o : AV} {bs : List Nat} (h : Own s a o bs) : ∀ b ∈ bs, s b ≠ none := fun b hb => by
  obtain ⟨cs, e, _⟩ := (Own.solid _ _ _ h).2.2 b hb
  rw [e]; simp
theorem Own.apart {s : Store} {a o : AV} {bs bs' : List Nat} (h : Own s a o bs) (hf : ∀ b ∈ bs', s b = none) : Apart bs bs' := fun b hb hb' => h.somes b hb (hf b hb')
theorem Own.beside {s s' : Store} {a o : AV} {bs bs' : List Nat} (h : Own s a o bs) (k : ∀ b, b ∉ bs' → s' b = s b) (d : Apart bs bs') : Own s' a o bs := Own.keep _ _ _ (fun b hb => k b (d b hb)) h
theorem Own.one' {st : Store} {es : List AV} {q : AV} {bs : List Nat} (h : Own st (.slice es) q bs) : q.cells = [q] ∧ q.storable = true ∧ q.isAgg = false ∧ q.width = 1 ∧ q.isJunk = false := by
  simp only [Own] at h
  rcases h with ⟨_, rfl, _⟩ | ⟨_, _, _, _, rfl, _⟩ <;> exact ⟨rfl, rfl, rfl, rfl, rfl⟩
/-- A struct, cell by cell: what a value that is held looks like. -/
theorem Own.fits {s : Store} {a o : AV} {bs : List Nat} {w : Nat} (h : Own s a o bs) (hw : a.width = w) (hs : a.cells.all AV.storable = true) : o.width = w ∧ o.cells.length = w ∧ o.cells.all AV.storable = true ∧ o.isJunk = false ∧ o.isAgg = a.isAgg := by
  obtain ⟨h1, h2, h3⟩ := h.cellsFit hw hs
  exact ⟨h1, h2, h3, h.shape.2.2.1, h.shape.1⟩
theorem ownL_2 {s : Store} {x y : AV} {os : List AV} {bs : List Nat} : OwnL s [x, y] os bs ↔ ∃ o1 o2 b1 b2, os = [o1, o2] ∧ bs = b1 ++ b2 ∧ Own s x o1 b1 ∧ Own s y o2 b2 := by
  simp only [OwnL]
  constructor
  · rintro ⟨o1, os1, b1, b1', rfl, rfl, h1, o2, os2, b2, b2', rfl, rfl, h2, rfl, rfl⟩
    exact ⟨o1, o2, b1, b2, rfl, by simp, h1, h2⟩
  · rintro ⟨o1, o2, b1, b2, rfl, rfl, h1, h2⟩
    exact ⟨o1, [o2], b1, b2, rfl, rfl, h1, o2, [], b2, [], rfl, by simp, h2, rfl, rfl⟩
theorem own_bool {s : Store} {b : Bool} {o : AV} {bs : List Nat} : Own s (.bool b) o bs ↔ o = .bool b ∧ bs = [] := by simp only [Own]
/-- One result that is held, and a truth value. -/
theorem MadeT.ofMade {st st' : Store} {a o : AV} {b : Bool} (h : Made st a o st') : MadeT st [a, .bool b] (.tup [o, .bool b]) st' := by
  obtain ⟨bs, h1, h2, h3, h4⟩ := h
  exact ⟨_, bs, rfl, h1, h2, ownL_2.2 ⟨o, .bool b, bs, [], rfl, by simp, h3, own_bool.2 ⟨rfl, rfl⟩⟩, h4⟩
theorem MadeT.toMade {st st' : Store} {a r : AV} {b : Bool} (h : MadeT st [a, .bool b] r st') : ∃ o, r = .tup [o, .bool b] ∧ Made st a o st' := by
  obtain ⟨os, bs, hr, h1, h2, h3, h4⟩ := h
  obtain ⟨o1, o2, b1, b2, rfl, rfl, h5, h6⟩ := ownL_2.1 h3
  obtain ⟨rfl, rfl⟩ := own_bool.1 h6
  rw [List.append_nil] at *
  exact ⟨o1, hr, b1, h1, h2, h5, h4⟩
/-- An argument is marked: what it holds turns, nothing else. -/
def MarkedA (st : Store) (bs : List Nat) (r : AV) (st' : Store) : Prop := ∃ k : Int, r = .int .i64 k ∧ 0 ≤ k ∧ k ≤ 1099511627776 ∧ ∀ q, q ∉ bs → st' q = st q
end Go.AW

/- Variables of terms, as data; what grows beside a block of its own. -/
namespace Go.AW
set_option linter.unusedSimpArgs false

mutual
def Tm.vars : Tm → List Int → List Int
  | .mk k n _ ts, l => tmsVars ts (if k = 1 ∧ n ∉ l then l ++ [n] else l)
def tmsVars : List Tm → List Int → List Int
  | [], l => l
  | t :: ts, l => tmsVars ts (t.vars l)
end
mutual
theorem Tm.vars_len : ∀ (t : Tm) (l : List Int), (t.vars l).length ≤ l.length + t.nodes
  | .mk k n s ts, l => by
    have h := tmsVars_len ts (if k = 1 ∧ n ∉ l then l ++ [n] else l)
    have h2 : (if k = 1 ∧ n ∉ l then l ++ [n] else l).length ≤ l.length + 1 := by split <;> simp
    rw [Tm.vars, Tm.nodes_mk]
    omega
theorem tmsVars_len : ∀ (ts : List Tm) (l : List Int), (tmsVars ts l).length ≤ l.length + sumL Tm.nodes ts
  | [], l => by simp [tmsVars, sumL]
  | t :: ts, l => by
    have h1 := Tm.vars_len t l
    have h2 := tmsVars_len ts (t.vars l)
    simp only [tmsVars, sumL]
    omega
end

def idxI (v : Int) : List Int → Int → Int
  | [], _ => -1
  | x :: xs, i => if v = x then i else idxI v xs (i + 1)
/-! ### A block beside a list that grows -/
theorem accS_upd {st : Store} {b x : Nat} {l : List AV} {o : AO} (h : l ≠ [] → x ≠ b) : (accS st b l).upd x o = accS (st.upd x o) b l := by
  cases l with
  | nil => rfl
  | cons y l => exact Store.upd_comm _ _ _ (Ne.symm (h (by simp)))
/-! ### Reading what grows -/
mutual
def Tm.wf : Tm → Bool
  | .mk k _ _ ts => (!decide (k = 1) || ts.isEmpty) && tmsWf ts
def tmsWf : List Tm → Bool
  | [] => true
  | t :: ts => t.wf && tmsWf ts
end
mutual
theorem Tm.wf_of : ∀ (t : Tm) (d : Int), t.shape d = true → t.wf = true
  | .mk k n s ts, d, h => by
    rw [Tm.shape_mk] at h
    simp only [Bool.and_eq_true, List.all_eq_true] at h
    obtain ⟨⟨_, h1⟩, h2⟩ := h
    have h3 := tmsWf_of ts (d - 1) h2
    simp only [Tm.wf, h3, Bool.and_true, Bool.or_eq_true, Bool.not_eq_true', decide_eq_false_iff_not, List.isEmpty_iff]
    by_cases hk : k = 1
    · refine .inr ?_
      subst hk
      simp [ownOk] at h1
      exact h1.2
    · exact .inl hk
theorem tmsWf_of : ∀ (ts : List Tm) (d : Int), (∀ x ∈ ts, x.shape d = true) → tmsWf ts = true
  | [], _, _ => rfl
  | t :: ts, d, h => by simp only [tmsWf, Tm.wf_of t d (h t (by simp)), tmsWf_of ts d (fun x hx => h x (by simp [hx])), Bool.and_self]
end
end Go.AW

/- A struct's list that grows in its memory. -/
namespace Go.AW
set_option linter.unusedSimpArgs false
/-- The struct in block c, with a list that grows in block b. -/
def kidS (S : Store) (c b : Nat) (hd : List AV) (l : List AV) : Store := accS (S.upd c (.cells (hd ++ [accV 4 b l]))) b l
theorem kidS_c {S : Store} {c b : Nat} {hd l : List AV} (hb : l ≠ [] → (S.upd c (.cells (hd ++ [accV 4 b l]))) b = none) : kidS S c b hd l c = some (.cells (hd ++ [accV 4 b l])) := by
  unfold kidS
  cases l with
  | nil => simp only [accS, Store.upd_same]
  | cons y l =>
    have h := hb (by simp)
    have hne : c ≠ b := fun e => by rw [← e, Store.upd_same] at h; cases h
    rw [accS_ne hne, Store.upd_same]
theorem kidS_set {S : Store} {c b b' : Nat} {hd l l' : List AV} (hb : l' ≠ [] → (S.upd c (.cells (hd ++ [accV 4 b l]))) b' = none) :
    (accS (S.upd c (.cells (hd ++ [accV 4 b l]))) b' l').upd c (.cells (hd ++ [accV 4 b' l'])) = kidS S c b' hd l' ∧ (l' ≠ [] → (S.upd c (.cells (hd ++ [accV 4 b' l']))) b' = none) ∧ accS (S.upd c (.cells (hd ++ [accV 4 b l]))) b' l' c = some (.cells (hd ++ [accV 4 b l])) := by
  have hne : l' ≠ [] → c ≠ b' := fun h e => by have := hb h; rw [← e, Store.upd_same] at this; cases this
  refine ⟨?_, fun h => ?_, ?_⟩
  · rw [accS_upd hne, Store.upd_upd]; rfl
  · have := hb h
    rw [Store.upd_ne _ _ (Ne.symm (hne h))] at this ⊢
    exact this
  · cases l' with
    | nil => simp only [accS, Store.upd_same]
    | cons y l => rw [accS_ne (hne (by simp)), Store.upd_same]
theorem kidS_ne {S : Store} {c b x : Nat} {hd l : List AV} (hb : l ≠ [] → (S.upd c (.cells (hd ++ [accV 4 b l]))) b = none) (hx : S x ≠ none) (hxc : x ≠ c) : kidS S c b hd l x = S x := by
  unfold kidS
  cases l with
  | nil => simp only [accS, Store.upd_ne _ _ hxc]
  | cons y l =>
    have h := hb (by simp)
    have hne : x ≠ b := fun e => by
      rw [← e, Store.upd_ne _ _ hxc] at h
      exact hx h
    rw [accS_ne hne, Store.upd_ne _ _ hxc]
theorem kidS_upd {S : Store} {c b x : Nat} {hd l : List AV} {o : AO} (hb : l ≠ [] → (S.upd c (.cells (hd ++ [accV 4 b l]))) b = none) (hx : S x ≠ none) (hxc : x ≠ c) : (kidS S c b hd l).upd x o = accS ((S.upd c (.cells (hd ++ [accV 4 b l]))).upd x o) b l ∧ (l ≠ [] → ((S.upd c (.cells (hd ++ [accV 4 b l]))).upd x o) b = none) := by
  have hne : l ≠ [] → x ≠ b := fun h e => by
    have := hb h
    rw [← e, Store.upd_ne _ _ hxc] at this
    exact hx this
  refine ⟨by unfold kidS; rw [accS_upd hne], fun h => by rw [Store.upd_ne _ _ (Ne.symm (hne h))]; exact hb h⟩
theorem tm_widths (l : List Tm) : ∀ e ∈ l.map Tm.av, e.width = 4 := by intro e h; simp only [List.mem_map] at h; obtain ⟨t, _, rfl⟩ := h; exact Tm.av_width t
theorem tm_junk (l : List Tm) : ∀ e ∈ l.map Tm.av, e.isJunk = false := by intro e h; simp only [List.mem_map] at h; obtain ⟨t, _, rfl⟩ := h; exact Tm.av_junk t
end Go.AW

/- A held list and a struct that tells of it: the list is never written again. -/
namespace Go.AW
set_option linter.unusedSimpArgs false
theorem StepH.of {h : Heap} {st st' : Store} (hk : ∀ x, st x = none → st' x = none) : StepH h st h st' := ⟨Nat.le_refl _, fun x _ e => ⟨rfl, hk x e⟩, fun _ c _ _ e => ⟨c, e, rfl⟩⟩
theorem Less.freezeIn {φ : AF} {st : Store} {b c : Nat} {es cs : List AV} (hbc : b ≠ c) (h1 : st b = some (.cells (es.flatMap AV.cells))) (h2 : ∀ e ∈ es, e.isJunk = false) (h3 : Even es) (hc : st c = some (.cells cs)) :
    Less φ st φ ((st.erase b).upd c (.cells (fzL b es cs))) := fun h tmps S F => by
  have T2 : StepH h (st.erase b) h ((st.erase b).upd c (.cells (fzL b es cs))) := StepH.of fun x hx => by
    have : x ≠ c := by rintro rfl; simp [Store.erase, Ne.symm hbc, hc] at hx
    rw [Store.upd_ne _ _ this]; exact hx
  have T : StepH h st h ((st.erase b).upd c (.cells (fzL b es cs))) := ((Drops.erase' st b).step h).trans T2
  refine ⟨fun x o hx => ?_, T, fun d => (F d).mono T⟩
  by_cases e : x = c
  · subst e
    rw [Store.upd_same] at hx
    cases hx
    obtain ⟨hl, c0, t, e1, e2, vs, e3, e4⟩ := S x _ hc
    refine ⟨hl, c0, t, e1, ?_, vs, e3, VCs.mono T2 _ _ (VCs.fz S h1 h2 h3 cs vs e4)⟩
    rw [fzL_map, List.length_map]; exact e2
  · rw [Store.upd_ne _ _ e] at hx
    have hx' : st x = some o := by
      simp only [Store.erase] at hx
      split at hx
      · cases hx
      · exact hx
    obtain ⟨hl, y⟩ := S x o hx'
    exact ⟨hl, ORel.mono T rfl y⟩
end Go.AW


/- Clauses that share nothing: what the program's functions return. -/
namespace Go.AW
open Go.Proofs.Try
set_option linter.unusedSimpArgs false
set_option maxRecDepth 100000

abbrev clSmall (c : Cl) : Prop := c.1.small = true ∧ c.2.length ≤ 1048576 ∧ ∀ x ∈ c.2, x.small = true
theorem tf_C4_99 : (type_of% tI_2) ∧ (type_of% zI_2) ∧ (type_of% Go.Proofs.Try.underlying2) ∧ (type_of% tI_3) ∧ (type_of% zI_3) ∧ (type_of% Go.Proofs.Try.underlying3) ∧ (type_of% tI_4) ∧ (type_of% zI_4) ∧ (type_of% Go.Proofs.Try.underlying4) ∧ (type_of% tI_5) ∧ (type_of% zI_5) ∧ (type_of% Go.Proofs.Try.underlying5) ∧ (type_of% tI_6) ∧ (type_of% zI_6) ∧ (type_of% Go.Proofs.Try.underlying6) ∧ (type_of% tI_7) ∧ (type_of% zI_7) ∧ (type_of% fI_7_0) ∧ (type_of% fI_7_1) ∧ (type_of% fI_7_2) ∧ (type_of% fI_7_3) ∧ (type_of% bI_7) ∧ (type_of% tI_8) ∧ (type_of% zI_8) ∧ (type_of% fI_8_0) ∧ (type_of% fI_8_1) ∧ (type_of% fI_8_2) ∧ (type_of% fI_8_3) ∧ (type_of% bI_8) ∧ (type_of% tI_12) ∧ (type_of% zI_12) ∧ (type_of% Go.Proofs.Try.underlying12) ∧ (type_of% tI_13) ∧ (type_of% zI_13) ∧ (type_of% fI_13_0) ∧ (type_of% fI_13_1) ∧ (type_of% bI_13) ∧ (type_of% tI_14) ∧ (type_of% zI_14) ∧ (type_of% fI_14_0) ∧ (type_of% fI_14_1) ∧ (type_of% bI_14) ∧ (type_of% tI_15) ∧ (type_of% zI_15) ∧ (type_of% tI_16) ∧ (type_of% zI_16) ∧ (type_of% tI_17) ∧ (type_of% zI_17) ∧ (type_of% tI_19) ∧ (type_of% zI_19) ∧ (type_of% fI_19_0) ∧ (type_of% bI_19) ∧ (type_of% tI_64) ∧ (type_of% zI_64) ∧ (type_of% fI_64_0) ∧ (type_of% fI_64_1) ∧ (type_of% bI_64) ∧ (type_of% tI_73) ∧ (type_of% zI_73) ∧ (type_of% eI_73) ∧ (type_of% eB_73) ∧ (type_of% eZ_73) ∧ (type_of% Go.Proofs.Try.underlying73) ∧ (type_of% tI_136) ∧ (type_of% zI_136) ∧ (type_of% fI_136_0) ∧ (type_of% fI_136_1) ∧ (type_of% bI_136) := ⟨tI_2, zI_2, Go.Proofs.Try.underlying2, tI_3, zI_3, Go.Proofs.Try.underlying3, tI_4, zI_4, Go.Proofs.Try.underlying4, tI_5, zI_5, Go.Proofs.Try.underlying5, tI_6, zI_6, Go.Proofs.Try.underlying6, tI_7, zI_7, fI_7_0, fI_7_1, fI_7_2, fI_7_3, bI_7, tI_8, zI_8, fI_8_0, fI_8_1, fI_8_2, fI_8_3, bI_8, tI_12, zI_12, Go.Proofs.Try.underlying12, tI_13, zI_13, fI_13_0, fI_13_1, bI_13, tI_14, zI_14, fI_14_0, fI_14_1, bI_14, tI_15, zI_15, tI_16, zI_16, tI_17, zI_17, tI_19, zI_19, fI_19_0, bI_19, tI_64, zI_64, fI_64_0, fI_64_1, bI_64, tI_73, zI_73, eI_73, eB_73, eZ_73, Go.Proofs.Try.underlying73, tI_136, zI_136, fI_136_0, fI_136_1, bI_136⟩
theorem o_ownProgram (l : List Cl) (st : Store) (hb : l.length ≤ 1048576) (hc : ∀ x ∈ l, ∀ (st : Store), ACalls prog 143 [clAv x] st (Made st (clAv x))) :
    ACalls prog 99 [.slice (l.map clAv)] st (Made st (.slice (l.map clAv))) := by
  have hws : ∀ e ∈ l.map clAv, e.width = 5 := fun e he => by simp only [List.mem_map] at he; obtain ⟨t, _, rfl⟩ := he; exact clAv_width t
  refine acalls_fit [] func99 ntmps99 rfl rfl (by kernel_rfl) (by decide +kernel) (by show 1 ≤ _; decide +kernel) ?_
  intro _
  simp -implicitDefEqProofs only [List.length_map, evb0, evb1, evb2, evb3, evb4, evb5, evb6, evb7, evb8, evb9, ↓evZ2, ↓evZ3, ↓Int.cast_ofNat_Int, implies_true, ne_eq, or_false, false_or, or_self, gt_iff_lt, isMut, aFn, List.contains, List.elem, aBox, aField, aLoad, sub, aNil, aPick, aExt, aFld, gd, noJunk, plainOp, aBuildSlice, aBuild, aFill, aParts, seqParts, fitAll, List.range', ↓reduceIte, reduceCtorEq, Nat.reduceEqDiff, Nat.reduceAdd, Nat.reduceLeDiff, Nat.reduceMul, Nat.reduceLT, Nat.reduceBEq, Int.reduceEq, tf_C4_99]
  refine arun_each (σ := List AV × List Nat × Nat × Store) [] [2, 6, 7] l (fun i p => GrowTo (l.map clAv) st i p.1 p.2.1 p.2.2.1 p.2.2.2) (fun i p => [(3, accV 5 p.2.2.1 p.1), (8, .int .i64 i)]) (fun _ p => p.2.2.2) (by decide +kernel)
    ⟨([], [], 0, st), GrowTo.start, LessL.mk (by simp -implicitDefEqProofs only [accV_nil, evb0, evb1, evb2, evb3, evb4, evb5, evb6, evb7, evb8, evb9, ↓evZ2, ↓evZ3, ↓Int.cast_ofNat_Int, implies_true, ne_eq, or_false, false_or, or_self, gt_iff_lt, isMut, aFn, List.contains, List.elem, aBox, aField, aLoad, sub, aNil, aPick, aExt, aFld, gd, noJunk, plainOp, aBuildSlice, aBuild, aFill, aParts, seqParts, fitAll, List.range', ↓reduceIte, reduceCtorEq, Nat.reduceEqDiff, Nat.reduceAdd, Nat.reduceLeDiff, Nat.reduceMul, Nat.reduceLT, Nat.reduceBEq, Int.reduceEq, tf_C4_99])⟩ (fun i x p hx hlt hlt' hdr hinv => ?_) (fun p hge hinv => ?_)
  case refine_2 =>
    obtain ⟨os, bs, b, s⟩ := p
    simp -implicitDefEqProofs only [List.length_map, hge, evb0, evb1, evb2, evb3, evb4, evb5, evb6, evb7, evb8, evb9, ↓evZ2, ↓evZ3, ↓Int.cast_ofNat_Int, implies_true, ne_eq, or_false, false_or, or_self, gt_iff_lt, isMut, aFn, List.contains, List.elem, aBox, aField, aLoad, sub, aNil, aPick, aExt, aFld, gd, noJunk, plainOp, aBuildSlice, aBuild, aFill, aParts, seqParts, fitAll, List.range', ↓reduceIte, reduceCtorEq, Nat.reduceEqDiff, Nat.reduceAdd, Nat.reduceLeDiff, Nat.reduceMul, Nat.reduceLT, Nat.reduceBEq, Int.reduceEq, tf_C4_99]
    exact hinv.done (List.length_map _) hws
  obtain ⟨os, bs, b, s⟩ := p
  simp only at hinv
  have hw := wrap64 (n := (i : Int) + 1) (by omega) (by omega)
  have hset : ∀ zs : List AV, zs.length = 5 → setCells zs 0 (clAv x).cells = (clAv x).cells := fun zs h => set_all (clAv_cells x) h
  simp -implicitDefEqProofs only [List.length_map, hlt', ev_at (av := clAv) eI_73 hx (clAv_width x), clAv_agg, clAv_width, clAv_cells, clAv_store, Store.upd_upd, hset, evb0, evb1, evb2, evb3, evb4, evb5, evb6, evb7, evb8, evb9, ↓evZ2, ↓evZ3, ↓Int.cast_ofNat_Int, implies_true, ne_eq, or_false, false_or, or_self, gt_iff_lt, isMut, aFn, List.contains, List.elem, aBox, aField, aLoad, sub, aNil, aPick, aExt, aFld, gd, noJunk, plainOp, aBuildSlice, aBuild, aFill, aParts, seqParts, fitAll, List.range', ↓reduceIte, reduceCtorEq, Nat.reduceEqDiff, Nat.reduceAdd, Nat.reduceLeDiff, Nat.reduceMul, Nat.reduceLT, Nat.reduceBEq, Int.reduceEq, tf_C4_99]
  intro b2 hb2
  try simp -implicitDefEqProofs only [su_eq, clAv_cells, take_all (clAv_cells x), agg_cells (clAv_agg x), Nat.le_refl, hset, Store.upd_upd, clAv_store, evb0, evb1, evb2, evb3, evb4, evb5, evb6, evb7, evb8, evb9, ↓evZ2, ↓evZ3, ↓Int.cast_ofNat_Int, implies_true, ne_eq, or_false, false_or, or_self, gt_iff_lt, isMut, aFn, List.contains, List.elem, aBox, aField, aLoad, sub, aNil, aPick, aExt, aFld, gd, noJunk, plainOp, aBuildSlice, aBuild, aFill, aParts, seqParts, fitAll, List.range', ↓reduceIte, reduceCtorEq, Nat.reduceEqDiff, Nat.reduceAdd, Nat.reduceLeDiff, Nat.reduceMul, Nat.reduceLT, Nat.reduceBEq, Int.reduceEq, tf_C4_99]
  refine (hc x (List.mem_of_getElem? hx) _).mono ?_
  rintro r s2 ⟨bx, m1, m2, m3, m4⟩
  obtain ⟨f1, f2, f3⟩ := m3.cellsFit (clAv_width x) (clAv_store x)
  have hra : r.isAgg = true := by rw [(Own.shape m3).1, clAv_agg]
  have hrj : r.isJunk = false := (Own.shape m3).2.2.1
  simp -implicitDefEqProofs only [f1, hra, hrj, evb0, evb1, evb2, evb3, evb4, evb5, evb6, evb7, evb8, evb9, ↓evZ2, ↓evZ3, ↓Int.cast_ofNat_Int, implies_true, ne_eq, or_false, false_or, or_self, gt_iff_lt, isMut, aFn, List.contains, List.elem, aBox, aField, aLoad, sub, aNil, aPick, aExt, aFld, gd, noJunk, plainOp, aBuildSlice, aBuild, aFill, aParts, seqParts, fitAll, List.range', ↓reduceIte, reduceCtorEq, Nat.reduceEqDiff, Nat.reduceAdd, Nat.reduceLeDiff, Nat.reduceMul, Nat.reduceLT, Nat.reduceBEq, Int.reduceEq, tf_C4_99]
  have hlen : os.length = i := hinv.1
  have hosw : ∀ e ∈ os, e.width = 5 := fun e he => by
    obtain ⟨k, hk, rfl⟩ := List.getElem_of_mem he
    exact hinv.2.1.widths (fun q hq => hws q (List.mem_of_mem_take hq)) _ he
  have hkb : os ≠ [] → s2 b = some (.cells (os.flatMap AV.cells)) := fun hne => by
    have h := (hinv.2.2.2.2.1 hne).2.2
    have hbx : b ∉ bx := fun hq => by
      have := m2 b hq
      have hne2 : b ≠ b2 := fun e => by rw [e, hb2] at h; cases h
      rw [Store.upd_ne _ _ hne2, h] at this; cases this
    have hne2 : b ≠ b2 := fun e => by rw [e, hb2] at h; cases h
    rw [m4 b hbx, Store.upd_ne _ _ hne2, h]
  refine acc_appendG eI_73 eB_73 eZ_73 rfl rfl (by intro e he; simp only [List.mem_cons, List.not_mem_nil, or_false] at he; subst he; exact ⟨f1, f3⟩) hosw hkb (by simp only [List.length_cons, List.length_nil, hlen]; omega) (by simp only [List.length_cons, List.length_nil, hlen]; omega) (fun b' s' k1 k2 k3 k4 => ?_)
  have hstep := hinv.step hb2 (show (l.map clAv)[i]? = some (clAv x) by rw [List.getElem?_map, hx]; rfl) m1 m2 m3 m4 (k1 (by simp)) (k2 (by simp)) (fun q h1 h2 => k3 q (fun _ => h1) h2) k4
  simp -implicitDefEqProofs only [hw, evb0, evb1, evb2, evb3, evb4, evb5, evb6, evb7, evb8, evb9, ↓evZ2, ↓evZ3, ↓Int.cast_ofNat_Int, implies_true, ne_eq, or_false, false_or, or_self, gt_iff_lt, isMut, aFn, List.contains, List.elem, aBox, aField, aLoad, sub, aNil, aPick, aExt, aFld, gd, noJunk, plainOp, aBuildSlice, aBuild, aFill, aParts, seqParts, fitAll, List.range', ↓reduceIte, reduceCtorEq, Nat.reduceEqDiff, Nat.reduceAdd, Nat.reduceLeDiff, Nat.reduceMul, Nat.reduceLT, Nat.reduceBEq, Int.reduceEq, tf_C4_99]
  exact ⟨(os ++ [r], bs ++ bx, b', s'.erase b2), hstep, LessL.drop (Drops.erase' _ _) (by simp -implicitDefEqProofs only [evb0, evb1, evb2, evb3, evb4, evb5, evb6, evb7, evb8, evb9, ↓evZ2, ↓evZ3, ↓Int.cast_ofNat_Int, implies_true, ne_eq, or_false, false_or, or_self, gt_iff_lt, isMut, aFn, List.contains, List.elem, aBox, aField, aLoad, sub, aNil, aPick, aExt, aFld, gd, noJunk, plainOp, aBuildSlice, aBuild, aFill, aParts, seqParts, fitAll, List.range', ↓reduceIte, reduceCtorEq, Nat.reduceEqDiff, Nat.reduceAdd, Nat.reduceLeDiff, Nat.reduceMul, Nat.reduceLT, Nat.reduceBEq, Int.reduceEq, tf_C4_99])⟩


theorem tf_C4_143 : (type_of% tI_2) ∧ (type_of% zI_2) ∧ (type_of% Go.Proofs.Try.underlying2) ∧ (type_of% tI_4) ∧ (type_of% zI_4) ∧ (type_of% Go.Proofs.Try.underlying4) ∧ (type_of% tI_5) ∧ (type_of% zI_5) ∧ (type_of% Go.Proofs.Try.underlying5) ∧ (type_of% tI_7) ∧ (type_of% zI_7) ∧ (type_of% fI_7_0) ∧ (type_of% fI_7_1) ∧ (type_of% fI_7_2) ∧ (type_of% fI_7_3) ∧ (type_of% bI_7) ∧ (type_of% tI_8) ∧ (type_of% zI_8) ∧ (type_of% fI_8_0) ∧ (type_of% fI_8_1) ∧ (type_of% fI_8_2) ∧ (type_of% fI_8_3) ∧ (type_of% bI_8) ∧ (type_of% tI_10) ∧ (type_of% zI_10) ∧ (type_of% Go.Proofs.Try.underlying10) ∧ (type_of% tI_27) ∧ (type_of% zI_27) ∧ (type_of% eI_27) ∧ (type_of% eB_27) ∧ (type_of% eZ_27) ∧ (type_of% Go.Proofs.Try.underlying27) ∧ (type_of% tI_41) ∧ (type_of% zI_41) ∧ (type_of% fI_41_0) ∧ (type_of% fI_41_1) ∧ (type_of% fI_41_2) ∧ (type_of% fI_41_3) ∧ (type_of% bI_41) ∧ (type_of% tI_75) ∧ (type_of% zI_75) ∧ (type_of% fI_75_0) ∧ (type_of% fI_75_1) ∧ (type_of% fI_75_2) ∧ (type_of% fI_75_3) ∧ (type_of% fI_75_4) ∧ (type_of% fI_75_5) ∧ (type_of% bI_75) ∧ (type_of% tI_136) ∧ (type_of% zI_136) ∧ (type_of% fI_136_0) ∧ (type_of% fI_136_1) ∧ (type_of% bI_136) := ⟨tI_2, zI_2, Go.Proofs.Try.underlying2, tI_4, zI_4, Go.Proofs.Try.underlying4, tI_5, zI_5, Go.Proofs.Try.underlying5, tI_7, zI_7, fI_7_0, fI_7_1, fI_7_2, fI_7_3, bI_7, tI_8, zI_8, fI_8_0, fI_8_1, fI_8_2, fI_8_3, bI_8, tI_10, zI_10, Go.Proofs.Try.underlying10, tI_27, zI_27, eI_27, eB_27, eZ_27, Go.Proofs.Try.underlying27, tI_41, zI_41, fI_41_0, fI_41_1, fI_41_2, fI_41_3, bI_41, tI_75, zI_75, fI_75_0, fI_75_1, fI_75_2, fI_75_3, fI_75_4, fI_75_5, bI_75, tI_136, zI_136, fI_136_0, fI_136_1, bI_136⟩
theorem o_ownClause (c : Cl) (st : Store) (hsm : clSmall c) : ACalls prog 143 [clAv c] st (Made st (clAv c)) := by
  obtain ⟨⟨k, n, s, ts⟩, bd⟩ := c
  obtain ⟨h1, h2, h3⟩ := hsm
  have hg := fun st => o_own (.mk k n s ts) st h1
  have hc := fun st => o_ownList bd st h2 fun x hx st => o_own x st (h3 x hx)
  simp only [Tm.av_mk] at hg
  simp only [clAv_mk]
  refine ACalls.madeJ ?_
  refine acalls_fit [1000000] func143 ntmps143 rfl rfl (by kernel_rfl) (by decide +kernel) (by show 1 ≤ _; decide +kernel) ?_
  intro _
  simp -implicitDefEqProofs only [setCells, evb0, evb1, evb2, evb3, evb4, evb5, evb6, evb7, evb8, evb9, ↓evZ2, ↓evZ3, ↓Int.cast_ofNat_Int, implies_true, ne_eq, or_false, false_or, or_self, gt_iff_lt, isMut, aFn, List.contains, List.elem, aBox, aField, aLoad, sub, aNil, aPick, aExt, aFld, gd, noJunk, plainOp, aBuildSlice, aBuild, aFill, aParts, seqParts, fitAll, List.range', ↓reduceIte, reduceCtorEq, Nat.reduceEqDiff, Nat.reduceAdd, Nat.reduceLeDiff, Nat.reduceMul, Nat.reduceLT, Nat.reduceBEq, Int.reduceEq, tf_C4_143]
  intro b hb1
  refine arun_planX [(0, 1), (1, 1), (3, 1), (4, 1), (2, 0), (5, 0), (6, 1), (7, 2)] [0, 1, 3, 4, 6] none0' mixed (by decide +kernel) (by decide +kernel) (by decide +kernel) rfl ext_none ?_
  simp -implicitDefEqProofs only [setCells, evb0, evb1, evb2, evb3, evb4, evb5, evb6, evb7, evb8, evb9, ↓evZ2, ↓evZ3, ↓Int.cast_ofNat_Int, implies_true, ne_eq, or_false, false_or, or_self, gt_iff_lt, isMut, aFn, List.contains, List.elem, aBox, aField, aLoad, sub, aNil, aPick, aExt, aFld, gd, noJunk, plainOp, aBuildSlice, aBuild, aFill, aParts, seqParts, fitAll, List.range', ↓reduceIte, reduceCtorEq, Nat.reduceEqDiff, Nat.reduceAdd, Nat.reduceLeDiff, Nat.reduceMul, Nat.reduceLT, Nat.reduceBEq, Int.reduceEq, tf_C4_143]
  refine (hg _).mono ?_
  rintro q0 s2 ⟨bs, m1, m2, m3, m4⟩
  rw [← Tm.av_mk] at m3
  obtain ⟨q, rfl, m3'⟩ := own_Tm.1 m3
  have hbb : b ∉ bs := fun h => by have := m2 b h; simp [su_eq] at this
  have e1 := m4 b hbb
  rw [Store.upd_same] at e1
  obtain ⟨hqc, hqs, hqa, hqw, hqj⟩ := Own.one' m3'
  simp -implicitDefEqProofs only [setCells, e1, hqc, hqs, hqa, hqw, hqj, evb0, evb1, evb2, evb3, evb4, evb5, evb6, evb7, evb8, evb9, ↓evZ2, ↓evZ3, ↓Int.cast_ofNat_Int, implies_true, ne_eq, or_false, false_or, or_self, gt_iff_lt, isMut, aFn, List.contains, List.elem, aBox, aField, aLoad, sub, aNil, aPick, aExt, aFld, gd, noJunk, plainOp, aBuildSlice, aBuild, aFill, aParts, seqParts, fitAll, List.range', ↓reduceIte, reduceCtorEq, Nat.reduceEqDiff, Nat.reduceAdd, Nat.reduceLeDiff, Nat.reduceMul, Nat.reduceLT, Nat.reduceBEq, Int.reduceEq, tf_C4_143]
  refine ⟨ext_none, ?_⟩
  refine (hc _).mono ?_
  rintro r s3 ⟨cs, n1, n2, n3, n4⟩
  have hcb : b ∉ cs := fun h => by have := n2 b h; rw [e1] at this; cases this
  have f1 := n4 b hcb
  rw [e1] at f1
  obtain ⟨hrc, hrs, hra, hrw, hrj⟩ := Own.one' n3
  simp -implicitDefEqProofs only [setCells, f1, hqc, hqs, hqa, hqw, hqj, hrc, hrs, hra, hrw, hrj, evb0, evb1, evb2, evb3, evb4, evb5, evb6, evb7, evb8, evb9, ↓evZ2, ↓evZ3, ↓Int.cast_ofNat_Int, implies_true, ne_eq, or_false, false_or, or_self, gt_iff_lt, isMut, aFn, List.contains, List.elem, aBox, aField, aLoad, sub, aNil, aPick, aExt, aFld, gd, noJunk, plainOp, aBuildSlice, aBuild, aFill, aParts, seqParts, fitAll, List.range', ↓reduceIte, reduceCtorEq, Nat.reduceEqDiff, Nat.reduceAdd, Nat.reduceLeDiff, Nat.reduceMul, Nat.reduceLT, Nat.reduceBEq, Int.reduceEq, tf_C4_143]
  have hsome := (Own.solid _ _ _ m3').2.2
  have hdis : ∀ x ∈ bs, x ∉ cs := fun x hx hx' => by
    obtain ⟨u, e, _⟩ := hsome x hx
    have := n2 x hx'
    rw [e] at this; cases this
  have hcs : ∀ x ∈ cs, x ≠ b := fun x hx e => hcb (e ▸ hx)
  have hbs : ∀ x ∈ bs, x ≠ b := fun x hx e => hbb (e ▸ hx)
  refine ⟨ext_none, [b], bs ++ cs, List.nodup_append.2 ⟨m1, n1, fun x hx y hy e => hdis x hx (e ▸ hy)⟩, fun x hx => ?_, ?_, ?_, ?_⟩
  · rcases List.mem_append.1 hx with hx | hx
    · have := m2 x hx
      rwa [Store.upd_ne _ _ (hbs x hx)] at this
    · have := n2 x hx
      rw [m4 x (fun h => hdis x h hx), Store.upd_ne _ _ (hcs x hx)] at this
      exact this
  · simp [hb1, hbb, hcb]
  · rw [← clAv_mk]
    refine own_Cl.2 ⟨q, bs, r, cs, rfl, rfl, Own.keep _ _ _ (fun x hx => ?_) m3', Own.keep _ _ _ (fun x hx => ?_) n3⟩
    · rw [Store.upd_ne _ _ (hbs x hx), n4 x (hdis x hx)]
    · rw [Store.upd_ne _ _ (hcs x hx)]
  · intro x hx hd
    simp only [List.mem_cons, List.not_mem_nil, or_false] at hd
    simp only [List.mem_append, not_or] at hx
    rw [Store.upd_ne _ _ hd, n4 x hx.2, m4 x hx.1, Store.upd_ne _ _ hd]
end Go.AW


/- Copies of terms: what the reference's functions return. -/
namespace Go.AW
open Go.Proofs.Try
set_option linter.unusedSimpArgs false
set_option maxRecDepth 100000

theorem tf_V5_138 : (type_of% tI_2) ∧ (type_of% zI_2) ∧ (type_of% Go.Proofs.Try.underlying2) ∧ (type_of% tI_3) ∧ (type_of% zI_3) ∧ (type_of% Go.Proofs.Try.underlying3) ∧ (type_of% tI_4) ∧ (type_of% zI_4) ∧ (type_of% Go.Proofs.Try.underlying4) ∧ (type_of% tI_5) ∧ (type_of% zI_5) ∧ (type_of% Go.Proofs.Try.underlying5) ∧ (type_of% tI_6) ∧ (type_of% zI_6) ∧ (type_of% Go.Proofs.Try.underlying6) ∧ (type_of% tI_9) ∧ (type_of% zI_9) ∧ (type_of% Go.Proofs.Try.underlying9) ∧ (type_of% tI_12) ∧ (type_of% zI_12) ∧ (type_of% Go.Proofs.Try.underlying12) ∧ (type_of% tI_14) ∧ (type_of% zI_14) ∧ (type_of% fI_14_0) ∧ (type_of% fI_14_1) ∧ (type_of% bI_14) ∧ (type_of% tI_15) ∧ (type_of% zI_15) ∧ (type_of% tI_27) ∧ (type_of% zI_27) ∧ (type_of% eI_27) ∧ (type_of% eB_27) ∧ (type_of% eZ_27) ∧ (type_of% Go.Proofs.Try.underlying27) ∧ (type_of% tI_31) ∧ (type_of% zI_31) ∧ (type_of% fI_31_0) ∧ (type_of% bI_31) ∧ (type_of% tI_41) ∧ (type_of% zI_41) ∧ (type_of% fI_41_0) ∧ (type_of% fI_41_1) ∧ (type_of% fI_41_2) ∧ (type_of% fI_41_3) ∧ (type_of% bI_41) ∧ (type_of% tI_64) ∧ (type_of% zI_64) ∧ (type_of% fI_64_0) ∧ (type_of% fI_64_1) ∧ (type_of% bI_64) := ⟨tI_2, zI_2, Go.Proofs.Try.underlying2, tI_3, zI_3, Go.Proofs.Try.underlying3, tI_4, zI_4, Go.Proofs.Try.underlying4, tI_5, zI_5, Go.Proofs.Try.underlying5, tI_6, zI_6, Go.Proofs.Try.underlying6, tI_9, zI_9, Go.Proofs.Try.underlying9, tI_12, zI_12, Go.Proofs.Try.underlying12, tI_14, zI_14, fI_14_0, fI_14_1, bI_14, tI_15, zI_15, tI_27, zI_27, eI_27, eB_27, eZ_27, Go.Proofs.Try.underlying27, tI_31, zI_31, fI_31_0, bI_31, tI_41, zI_41, fI_41_0, fI_41_1, fI_41_2, fI_41_3, bI_41, tI_64, zI_64, fI_64_0, fI_64_1, bI_64⟩
theorem c_l1Copy : ∀ (t : Tm) (st : Store), t.small = true → ACalls prog 138 [t.av] st (fun r st' => r = t.av ∧ st' = st)
  | .mk k n s ts, st, hsm => by
    obtain ⟨hlen, hsms⟩ := Tm.small_mk hsm
    have IH := fun (x : Tm) (hx : x ∈ ts) st => c_l1Copy x st (hsms x hx)
    refine ACalls.drop2 (ACalls.fin ?_)
    simp only [Tm.av_mk]
    refine acalls_fit [] func138 ntmps138 rfl rfl (by kernel_rfl) (by decide +kernel) (by show 1 ≤ _; decide +kernel) ?_
    simp only [fitsL, AV.fits, and_true, List.length_map]
    intro ⟨_, _, _, hl, _⟩
    simp -implicitDefEqProofs only [evb0, evb1, evb2, evb3, evb4, evb5, evb6, evb7, evb8, evb9, ↓evZ2, ↓evZ3, ↓Int.cast_ofNat_Int, implies_true, ne_eq, or_false, false_or, or_self, gt_iff_lt, isMut, aFn, List.contains, List.elem, aBox, aField, aLoad, sub, aNil, aPick, aExt, aFld, gd, noJunk, plainOp, aBuildSlice, aBuild, aFill, aParts, seqParts, fitAll, List.range', ↓reduceIte, reduceCtorEq, Nat.reduceEqDiff, Nat.reduceAdd, Nat.reduceLeDiff, Nat.reduceMul, Nat.reduceLT, Nat.reduceBEq, Int.reduceEq, tf_V5_138]
    intro b2 hb2 c hc
    have hne : c ≠ b2 := by rintro rfl; rw [Store.upd_same] at hc; cases hc
    have hn2 : st c = none := by rw [Store.upd_ne st _ hne] at hc; exact hc
    simp -implicitDefEqProofs only [Store.upd_upd, setCells, evb0, evb1, evb2, evb3, evb4, evb5, evb6, evb7, evb8, evb9, ↓evZ2, ↓evZ3, ↓Int.cast_ofNat_Int, implies_true, ne_eq, or_false, false_or, or_self, gt_iff_lt, isMut, aFn, List.contains, List.elem, aBox, aField, aLoad, sub, aNil, aPick, aExt, aFld, gd, noJunk, plainOp, aBuildSlice, aBuild, aFill, aParts, seqParts, fitAll, List.range', ↓reduceIte, reduceCtorEq, Nat.reduceEqDiff, Nat.reduceAdd, Nat.reduceLeDiff, Nat.reduceMul, Nat.reduceLT, Nat.reduceBEq, Int.reduceEq, tf_V5_138]
    refine arun_each (σ := Nat) [] [1, 2, 3] ts (fun i b => (((ts.take i).map (fun y => y)).map Tm.av ≠ [] → (Store.upd (st.upd b2 (.cells [AV.int .i64 0, AV.int .i64 0, AV.str ⟨#[]⟩, AV.fslice []])) c (.cells ([AV.int .i64 k, AV.int .i64 n, AV.str s] ++ [accV 4 b (((ts.take i).map (fun y => y)).map Tm.av)]))) b = none)) (fun i b => [(4, .int .i64 i)]) (fun i b => kidS (st.upd b2 (.cells [AV.int .i64 0, AV.int .i64 0, AV.str ⟨#[]⟩, AV.fslice []])) c b [AV.int .i64 k, AV.int .i64 n, AV.str s] (((ts.take i).map (fun y => y)).map Tm.av)) (by decide +kernel)
      ⟨0, fun h => absurd rfl h, LessL.mk (by simp -implicitDefEqProofs only [List.length_map, evb0, evb1, evb2, evb3, evb4, evb5, evb6, evb7, evb8, evb9, ↓evZ2, ↓evZ3, ↓Int.cast_ofNat_Int, implies_true, ne_eq, or_false, false_or, or_self, gt_iff_lt, isMut, aFn, List.contains, List.elem, aBox, aField, aLoad, sub, aNil, aPick, aExt, aFld, gd, noJunk, plainOp, aBuildSlice, aBuild, aFill, aParts, seqParts, fitAll, List.range', ↓reduceIte, reduceCtorEq, Nat.reduceEqDiff, Nat.reduceAdd, Nat.reduceLeDiff, Nat.reduceMul, Nat.reduceLT, Nat.reduceBEq, Int.reduceEq, tf_V5_138])⟩ (fun i x b hx hlt hlt' hdr hinv => ?_) (fun b hge hinv => ?_)
    case refine_1 =>
      have hw := wrap64 (n := (i : Int) + 1) (by omega) (by omega)
      have hlen' : (((ts.take i).map (fun y => y)).map Tm.av).length = i := by simp only [List.length_map, List.length_take]; omega
      have htk : (ts.take (i + 1)).map (fun y => y) = (ts.take i).map (fun y => y) ++ [(fun y => y) x] := by rw [List.take_add_one, hx]; simp
      have hbo := kidS_c hinv
      simp -implicitDefEqProofs only [List.length_map, hlt', Nat.zero_add, evb0, evb1, evb2, evb3, evb4, evb5, evb6, evb7, evb8, evb9, ↓evZ2, ↓evZ3, ↓Int.cast_ofNat_Int, implies_true, ne_eq, or_false, false_or, or_self, gt_iff_lt, isMut, aFn, List.contains, List.elem, aBox, aField, aLoad, sub, aNil, aPick, aExt, aFld, gd, noJunk, plainOp, aBuildSlice, aBuild, aFill, aParts, seqParts, fitAll, List.range', ↓reduceIte, reduceCtorEq, Nat.reduceEqDiff, Nat.reduceAdd, Nat.reduceLeDiff, Nat.reduceMul, Nat.reduceLT, Nat.reduceBEq, Int.reduceEq, tf_V5_138]
      refine arun_plan [(0, 1), (2, 1), (4, 1), (1, 2), (3, 2), (5, 1), (6, 2), (7, 2), (8, 1), (9, 0), (10, 1), (11, 0)] [0, 2, 4, 1, 3, 5, 6, 7, 8, 10] mixed (by decide +kernel) (by decide +kernel) (by decide +kernel) ?_
      simp -implicitDefEqProofs only [ev_at (av := Tm.av) eI_27 hx (Tm.av_width x), Tm.av_agg, Tm.av_width, hbo, accV_agg, accV_width, Nat.zero_add, evb0, evb1, evb2, evb3, evb4, evb5, evb6, evb7, evb8, evb9, ↓evZ2, ↓evZ3, ↓Int.cast_ofNat_Int, implies_true, ne_eq, or_false, false_or, or_self, gt_iff_lt, isMut, aFn, List.contains, List.elem, aBox, aField, aLoad, sub, aNil, aPick, aExt, aFld, gd, noJunk, plainOp, aBuildSlice, aBuild, aFill, aParts, seqParts, fitAll, List.range', ↓reduceIte, reduceCtorEq, Nat.reduceEqDiff, Nat.reduceAdd, Nat.reduceLeDiff, Nat.reduceMul, Nat.reduceLT, Nat.reduceBEq, Int.reduceEq, tf_V5_138]
      refine callH_mk (IH x (List.mem_of_getElem? hx) _) ?_
      simp -implicitDefEqProofs only [Tm.av_agg, Tm.av_width, Tm.av_junk, hbo, accV_agg, accV_width, Nat.zero_add, evb0, evb1, evb2, evb3, evb4, evb5, evb6, evb7, evb8, evb9, ↓evZ2, ↓evZ3, ↓Int.cast_ofNat_Int, implies_true, ne_eq, or_false, false_or, or_self, gt_iff_lt, isMut, aFn, List.contains, List.elem, aBox, aField, aLoad, sub, aNil, aPick, aExt, aFld, gd, noJunk, plainOp, aBuildSlice, aBuild, aFill, aParts, seqParts, fitAll, List.range', ↓reduceIte, reduceCtorEq, Nat.reduceEqDiff, Nat.reduceAdd, Nat.reduceLeDiff, Nat.reduceMul, Nat.reduceLT, Nat.reduceBEq, Int.reduceEq, tf_V5_138]
      refine acc_append eI_27 eB_27 eZ_27 rfl rfl (by intro e he; simp only [List.mem_cons, List.not_mem_nil, or_false] at he; subst he; exact ⟨Tm.av_width _, Tm.av_store _⟩) (tm_widths _) hinv (by simp only [hlen', List.length_cons, List.length_nil]; omega) (by simp only [hlen', List.length_cons, List.length_nil]; omega) (fun b' hb' => ?_)
      rw [show (((ts.take i).map (fun y => y)).map Tm.av) ++ [((fun y => y) x).av] = ((ts.take (i + 1)).map (fun y => y)).map Tm.av by rw [htk]; simp] at hb' ⊢
      obtain ⟨g1, g2, g3⟩ := kidS_set hb'
      simp only [List.cons_append, List.nil_append] at g1 g3
      simp -implicitDefEqProofs only [g3, accV_cells, accV_store, setCells, Nat.le_refl, g1, hw, evb0, evb1, evb2, evb3, evb4, evb5, evb6, evb7, evb8, evb9, ↓evZ2, ↓evZ3, ↓Int.cast_ofNat_Int, implies_true, ne_eq, or_false, false_or, or_self, gt_iff_lt, isMut, aFn, List.contains, List.elem, aBox, aField, aLoad, sub, aNil, aPick, aExt, aFld, gd, noJunk, plainOp, aBuildSlice, aBuild, aFill, aParts, seqParts, fitAll, List.range', ↓reduceIte, reduceCtorEq, Nat.reduceEqDiff, Nat.reduceAdd, Nat.reduceLeDiff, Nat.reduceMul, Nat.reduceLT, Nat.reduceBEq, Int.reduceEq, tf_V5_138]
      exact ⟨b', g2, LessL.mk (by simp -implicitDefEqProofs only [evb0, evb1, evb2, evb3, evb4, evb5, evb6, evb7, evb8, evb9, ↓evZ2, ↓evZ3, ↓Int.cast_ofNat_Int, implies_true, ne_eq, or_false, false_or, or_self, gt_iff_lt, isMut, aFn, List.contains, List.elem, aBox, aField, aLoad, sub, aNil, aPick, aExt, aFld, gd, noJunk, plainOp, aBuildSlice, aBuild, aFill, aParts, seqParts, fitAll, List.range', ↓reduceIte, reduceCtorEq, Nat.reduceEqDiff, Nat.reduceAdd, Nat.reduceLeDiff, Nat.reduceMul, Nat.reduceLT, Nat.reduceBEq, Int.reduceEq, tf_V5_138])⟩
    have hbo := kidS_c hinv
    rw [List.take_length] at hinv hbo ⊢
    simp -implicitDefEqProofs only [List.length_map, hge, evb0, evb1, evb2, evb3, evb4, evb5, evb6, evb7, evb8, evb9, ↓evZ2, ↓evZ3, ↓Int.cast_ofNat_Int, implies_true, ne_eq, or_false, false_or, or_self, gt_iff_lt, isMut, aFn, List.contains, List.elem, aBox, aField, aLoad, sub, aNil, aPick, aExt, aFld, gd, noJunk, plainOp, aBuildSlice, aBuild, aFill, aParts, seqParts, fitAll, List.range', ↓reduceIte, reduceCtorEq, Nat.reduceEqDiff, Nat.reduceAdd, Nat.reduceLeDiff, Nat.reduceMul, Nat.reduceLT, Nat.reduceBEq, Int.reduceEq, tf_V5_138]
    simp -implicitDefEqProofs only [hbo, evb0, evb1, evb2, evb3, evb4, evb5, evb6, evb7, evb8, evb9, ↓evZ2, ↓evZ3, ↓Int.cast_ofNat_Int, implies_true, ne_eq, or_false, false_or, or_self, gt_iff_lt, isMut, aFn, List.contains, List.elem, aBox, aField, aLoad, sub, aNil, aPick, aExt, aFld, gd, noJunk, plainOp, aBuildSlice, aBuild, aFill, aParts, seqParts, fitAll, List.range', ↓reduceIte, reduceCtorEq, Nat.reduceEqDiff, Nat.reduceAdd, Nat.reduceLeDiff, Nat.reduceMul, Nat.reduceLT, Nat.reduceBEq, Int.reduceEq, tf_V5_138]
    have hb2c : b2 ≠ c := Ne.symm hne
    have hS : (st.upd b2 (.cells [AV.int .i64 0, AV.int .i64 0, AV.str ⟨#[]⟩, AV.fslice []])) b2 ≠ none := by rw [Store.upd_same]; simp
    have h1 := kidS_ne hinv hS hb2c
    rw [Store.upd_same] at h1
    simp -implicitDefEqProofs only [h1, accV_store, accV_cells, setCells, Nat.le_refl, evb0, evb1, evb2, evb3, evb4, evb5, evb6, evb7, evb8, evb9, ↓evZ2, ↓evZ3, ↓Int.cast_ofNat_Int, implies_true, ne_eq, or_false, false_or, or_self, gt_iff_lt, isMut, aFn, List.contains, List.elem, aBox, aField, aLoad, sub, aNil, aPick, aExt, aFld, gd, noJunk, plainOp, aBuildSlice, aBuild, aFill, aParts, seqParts, fitAll, List.range', ↓reduceIte, reduceCtorEq, Nat.reduceEqDiff, Nat.reduceAdd, Nat.reduceLeDiff, Nat.reduceMul, Nat.reduceLT, Nat.reduceBEq, Int.reduceEq, tf_V5_138]
    obtain ⟨h2, h3⟩ := kidS_upd (o := .cells [AV.int .i64 k, AV.int .i64 n, AV.str s, accV 4 b ((ts.map fun y => y).map Tm.av)]) hinv hS hb2c
    refine ⟨b, _, _, h2, h3, tm_junk _, ⟨4, tm_widths _⟩, ?_, ?_⟩
    · simp only [fin_agg, List.map_cons, List.map_nil, fin_int, fin_str, accV_fin, List.map_id']
    · exact (((Drops.refl _).upd hb2).upd hn2).upd hb2
termination_by t => SizeOf.sizeOf t
decreasing_by have := List.sizeOf_lt_of_mem hx; simp only [Tm.mk.sizeOf_spec]; omega
end Go.AW
