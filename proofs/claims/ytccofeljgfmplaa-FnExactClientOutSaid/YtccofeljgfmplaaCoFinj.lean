import Derived.Test.YtccofeljgfmplaaCoFini

/- Clauses: what the laws' helpers return. -/
namespace Go.AW
open Go.Proofs.Try
set_option linter.unusedSimpArgs false
set_option maxRecDepth 100000

theorem tf_C1_44 : (type_of% tI_2) ∧ (type_of% zI_2) ∧ (type_of% Go.Proofs.Try.underlying2) ∧ (type_of% tI_3) ∧ (type_of% zI_3) ∧ (type_of% Go.Proofs.Try.underlying3) ∧ (type_of% tI_4) ∧ (type_of% zI_4) ∧ (type_of% Go.Proofs.Try.underlying4) ∧ (type_of% tI_5) ∧ (type_of% zI_5) ∧ (type_of% Go.Proofs.Try.underlying5) ∧ (type_of% tI_6) ∧ (type_of% zI_6) ∧ (type_of% Go.Proofs.Try.underlying6) ∧ (type_of% tI_7) ∧ (type_of% zI_7) ∧ (type_of% fI_7_0) ∧ (type_of% fI_7_1) ∧ (type_of% fI_7_2) ∧ (type_of% fI_7_3) ∧ (type_of% bI_7) ∧ (type_of% tI_8) ∧ (type_of% zI_8) ∧ (type_of% fI_8_0) ∧ (type_of% fI_8_1) ∧ (type_of% fI_8_2) ∧ (type_of% fI_8_3) ∧ (type_of% bI_8) ∧ (type_of% tI_9) ∧ (type_of% zI_9) ∧ (type_of% Go.Proofs.Try.underlying9) ∧ (type_of% tI_10) ∧ (type_of% zI_10) ∧ (type_of% Go.Proofs.Try.underlying10) ∧ (type_of% tI_11) ∧ (type_of% zI_11) ∧ (type_of% Go.Proofs.Try.underlying11) ∧ (type_of% tI_12) ∧ (type_of% zI_12) ∧ (type_of% Go.Proofs.Try.underlying12) ∧ (type_of% tI_13) ∧ (type_of% zI_13) ∧ (type_of% fI_13_0) ∧ (type_of% fI_13_1) ∧ (type_of% bI_13) ∧ (type_of% tI_24) ∧ (type_of% zI_24) ∧ (type_of% fI_24_0) ∧ (type_of% bI_24) ∧ (type_of% tI_27) ∧ (type_of% zI_27) ∧ (type_of% eI_27) ∧ (type_of% eB_27) ∧ (type_of% eZ_27) ∧ (type_of% Go.Proofs.Try.underlying27) ∧ (type_of% tI_64) ∧ (type_of% zI_64) ∧ (type_of% fI_64_0) ∧ (type_of% fI_64_1) ∧ (type_of% bI_64) ∧ (type_of% tI_73) ∧ (type_of% zI_73) ∧ (type_of% eI_73) ∧ (type_of% eB_73) ∧ (type_of% eZ_73) ∧ (type_of% Go.Proofs.Try.underlying73) ∧ (type_of% tI_136) ∧ (type_of% zI_136) ∧ (type_of% fI_136_0) ∧ (type_of% fI_136_1) ∧ (type_of% bI_136) ∧ (type_of% tI_230) ∧ (type_of% zI_230) ∧ (type_of% Go.Proofs.Try.underlying230) ∧ (type_of% tI_233) ∧ (type_of% zI_233) ∧ (type_of% fI_233_0) ∧ (type_of% fI_233_1) ∧ (type_of% fI_233_2) ∧ (type_of% fI_233_3) ∧ (type_of% fI_233_4) ∧ (type_of% fI_233_5) ∧ (type_of% fI_233_6) ∧ (type_of% fI_233_7) ∧ (type_of% fI_233_8) ∧ (type_of% fI_233_9) ∧ (type_of% fI_233_10) ∧ (type_of% bI_233) := ⟨tI_2, zI_2, Go.Proofs.Try.underlying2, tI_3, zI_3, Go.Proofs.Try.underlying3, tI_4, zI_4, Go.Proofs.Try.underlying4, tI_5, zI_5, Go.Proofs.Try.underlying5, tI_6, zI_6, Go.Proofs.Try.underlying6, tI_7, zI_7, fI_7_0, fI_7_1, fI_7_2, fI_7_3, bI_7, tI_8, zI_8, fI_8_0, fI_8_1, fI_8_2, fI_8_3, bI_8, tI_9, zI_9, Go.Proofs.Try.underlying9, tI_10, zI_10, Go.Proofs.Try.underlying10, tI_11, zI_11, Go.Proofs.Try.underlying11, tI_12, zI_12, Go.Proofs.Try.underlying12, tI_13, zI_13, fI_13_0, fI_13_1, bI_13, tI_24, zI_24, fI_24_0, bI_24, tI_27, zI_27, eI_27, eB_27, eZ_27, Go.Proofs.Try.underlying27, tI_64, zI_64, fI_64_0, fI_64_1, bI_64, tI_73, zI_73, eI_73, eB_73, eZ_73, Go.Proofs.Try.underlying73, tI_136, zI_136, fI_136_0, fI_136_1, bI_136, tI_230, zI_230, Go.Proofs.Try.underlying230, tI_233, zI_233, fI_233_0, fI_233_1, fI_233_2, fI_233_3, fI_233_4, fI_233_5, fI_233_6, fI_233_7, fI_233_8, fI_233_9, fI_233_10, bI_233⟩
theorem c_eqClauseS (l l' : List Cl) (st : Store) (hc : ∀ x ∈ l, ∀ (y : Cl) (st : Store), ACalls prog 100 [clAv x, clAv y] st (fun r st' => r = .bool (clSame x y) ∧ st' = st)) :
    ACalls prog 44 [.slice (l.map clAv), .slice (l'.map clAv)] st (fun r st' => r = .bool (eqL clSame l l') ∧ st' = st) := by
  refine acalls_fit [] func44 ntmps44 rfl rfl (by kernel_rfl) (by decide +kernel) (by show 2 ≤ _; decide +kernel) ?_
  simp only [fitsL, AV.fits, and_true, List.length_map]
  intro ⟨⟨hl, _⟩, ⟨hl', _⟩⟩
  simp -implicitDefEqProofs only [List.length_map, evb0, evb1, evb2, evb3, evb4, evb5, evb6, evb7, evb8, evb9, ↓evZ2, ↓evZ3, ↓Int.cast_ofNat_Int, implies_true, ne_eq, or_false, false_or, or_self, gt_iff_lt, isMut, aFn, List.contains, List.elem, aBox, aField, aLoad, sub, aNil, aPick, aExt, aFld, gd, noJunk, plainOp, aBuildSlice, aBuild, aFill, aParts, seqParts, fitAll, List.range', ↓reduceIte, reduceCtorEq, Nat.reduceEqDiff, Nat.reduceAdd, Nat.reduceLeDiff, Nat.reduceMul, Nat.reduceLT, Nat.reduceBEq, Int.reduceEq, tf_C1_44]
  refine ⟨fun h4 => ?_, fun h4 => ?_⟩
  · simp -implicitDefEqProofs only [evb0, evb1, evb2, evb3, evb4, evb5, evb6, evb7, evb8, evb9, ↓evZ2, ↓evZ3, ↓Int.cast_ofNat_Int, implies_true, ne_eq, or_false, false_or, or_self, gt_iff_lt, isMut, aFn, List.contains, List.elem, aBox, aField, aLoad, sub, aNil, aPick, aExt, aFld, gd, noJunk, plainOp, aBuildSlice, aBuild, aFill, aParts, seqParts, fitAll, List.range', ↓reduceIte, reduceCtorEq, Nat.reduceEqDiff, Nat.reduceAdd, Nat.reduceLeDiff, Nat.reduceMul, Nat.reduceLT, Nat.reduceBEq, Int.reduceEq, tf_C1_44]
    simp only [Bool.not_eq_true', decide_eq_false_iff_not] at h4
    rw [eqL_len _ (show l.length ≠ l'.length by omega)]
  simp -implicitDefEqProofs only [evb0, evb1, evb2, evb3, evb4, evb5, evb6, evb7, evb8, evb9, ↓evZ2, ↓evZ3, ↓Int.cast_ofNat_Int, implies_true, ne_eq, or_false, false_or, or_self, gt_iff_lt, isMut, aFn, List.contains, List.elem, aBox, aField, aLoad, sub, aNil, aPick, aExt, aFld, gd, noJunk, plainOp, aBuildSlice, aBuild, aFill, aParts, seqParts, fitAll, List.range', ↓reduceIte, reduceCtorEq, Nat.reduceEqDiff, Nat.reduceAdd, Nat.reduceLeDiff, Nat.reduceMul, Nat.reduceLT, Nat.reduceBEq, Int.reduceEq, tf_C1_44]
  simp only [Bool.not_eq_false', decide_eq_true_eq] at h4
  have h4' : l.length = l'.length := by omega
  refine arun_loopL (α := Nat) [] (fun i => i ≤ l.length ∧ ∀ (j : Nat) (x y : Cl), j < i → l[j]? = some x → l'[j]? = some y → clSame x y = true)
    (fun i => [(0, .slice (l.map clAv)), (1, .slice (l'.map clAv)), (5, .int .i64 i)]) (fun _ => st) (fun i => l.length - i) (by decide +kernel)
    ⟨0, ⟨by omega, by intro j x y h; omega⟩, LessL.mk (by simp -implicitDefEqProofs only [evb0, evb1, evb2, evb3, evb4, evb5, evb6, evb7, evb8, evb9, ↓evZ2, ↓evZ3, ↓Int.cast_ofNat_Int, implies_true, ne_eq, or_false, false_or, or_self, gt_iff_lt, isMut, aFn, List.contains, List.elem, aBox, aField, aLoad, sub, aNil, aPick, aExt, aFld, gd, noJunk, plainOp, aBuildSlice, aBuild, aFill, aParts, seqParts, fitAll, List.range', ↓reduceIte, reduceCtorEq, Nat.reduceEqDiff, Nat.reduceAdd, Nat.reduceLeDiff, Nat.reduceMul, Nat.reduceLT, Nat.reduceBEq, Int.reduceEq, tf_C1_44])⟩ ?_
  intro i ⟨hi, hall⟩
  simp -implicitDefEqProofs only [List.length_map, evb0, evb1, evb2, evb3, evb4, evb5, evb6, evb7, evb8, evb9, ↓evZ2, ↓evZ3, ↓Int.cast_ofNat_Int, implies_true, ne_eq, or_false, false_or, or_self, gt_iff_lt, isMut, aFn, List.contains, List.elem, aBox, aField, aLoad, sub, aNil, aPick, aExt, aFld, gd, noJunk, plainOp, aBuildSlice, aBuild, aFill, aParts, seqParts, fitAll, List.range', ↓reduceIte, reduceCtorEq, Nat.reduceEqDiff, Nat.reduceAdd, Nat.reduceLeDiff, Nat.reduceMul, Nat.reduceLT, Nat.reduceBEq, Int.reduceEq, tf_C1_44]
  refine ⟨fun h5 => ?_, fun h5 => ?_⟩
  case refine_2 =>
    simp -implicitDefEqProofs only [evb0, evb1, evb2, evb3, evb4, evb5, evb6, evb7, evb8, evb9, ↓evZ2, ↓evZ3, ↓Int.cast_ofNat_Int, implies_true, ne_eq, or_false, false_or, or_self, gt_iff_lt, isMut, aFn, List.contains, List.elem, aBox, aField, aLoad, sub, aNil, aPick, aExt, aFld, gd, noJunk, plainOp, aBuildSlice, aBuild, aFill, aParts, seqParts, fitAll, List.range', ↓reduceIte, reduceCtorEq, Nat.reduceEqDiff, Nat.reduceAdd, Nat.reduceLeDiff, Nat.reduceMul, Nat.reduceLT, Nat.reduceBEq, Int.reduceEq, tf_C1_44]
    simp only [decide_eq_false_iff_not, Int.ofNat_lt] at h5
    rw [eqL_all _ h4' (fun j x y h6 h7 => hall j x y (by have := (List.getElem?_eq_some_iff.1 h6).1; omega) h6 h7)]
  simp only [decide_eq_true_eq, Int.ofNat_lt] at h5
  obtain ⟨x, hx⟩ : ∃ x, l[i]? = some x := ⟨_, List.getElem?_eq_getElem h5⟩
  obtain ⟨y, hy⟩ : ∃ y, l'[i]? = some y := ⟨_, List.getElem?_eq_getElem (h4' ▸ h5)⟩
  simp -implicitDefEqProofs only [evb0, evb1, evb2, evb3, evb4, evb5, evb6, evb7, evb8, evb9, ↓evZ2, ↓evZ3, ↓Int.cast_ofNat_Int, implies_true, ne_eq, or_false, false_or, or_self, gt_iff_lt, isMut, aFn, List.contains, List.elem, aBox, aField, aLoad, sub, aNil, aPick, aExt, aFld, gd, noJunk, plainOp, aBuildSlice, aBuild, aFill, aParts, seqParts, fitAll, List.range', ↓reduceIte, reduceCtorEq, Nat.reduceEqDiff, Nat.reduceAdd, Nat.reduceLeDiff, Nat.reduceMul, Nat.reduceLT, Nat.reduceBEq, Int.reduceEq, tf_C1_44]
  refine arun_drawP mixed (by decide +kernel) (by decide +kernel) ?_
  simp -implicitDefEqProofs only [ev_at (av := clAv) eI_73 hx (clAv_width x), ev_at (av := clAv) eI_73 hy (clAv_width y), clAv_agg, clAv_width, evb0, evb1, evb2, evb3, evb4, evb5, evb6, evb7, evb8, evb9, ↓evZ2, ↓evZ3, ↓Int.cast_ofNat_Int, implies_true, ne_eq, or_false, false_or, or_self, gt_iff_lt, isMut, aFn, List.contains, List.elem, aBox, aField, aLoad, sub, aNil, aPick, aExt, aFld, gd, noJunk, plainOp, aBuildSlice, aBuild, aFill, aParts, seqParts, fitAll, List.range', ↓reduceIte, reduceCtorEq, Nat.reduceEqDiff, Nat.reduceAdd, Nat.reduceLeDiff, Nat.reduceMul, Nat.reduceLT, Nat.reduceBEq, Int.reduceEq, tf_C1_44]
  refine (hc x (List.mem_of_getElem? hx) y st).to ?_
  simp -implicitDefEqProofs only [evb0, evb1, evb2, evb3, evb4, evb5, evb6, evb7, evb8, evb9, ↓evZ2, ↓evZ3, ↓Int.cast_ofNat_Int, implies_true, ne_eq, or_false, false_or, or_self, gt_iff_lt, isMut, aFn, List.contains, List.elem, aBox, aField, aLoad, sub, aNil, aPick, aExt, aFld, gd, noJunk, plainOp, aBuildSlice, aBuild, aFill, aParts, seqParts, fitAll, List.range', ↓reduceIte, reduceCtorEq, Nat.reduceEqDiff, Nat.reduceAdd, Nat.reduceLeDiff, Nat.reduceMul, Nat.reduceLT, Nat.reduceBEq, Int.reduceEq, tf_C1_44]
  refine ⟨fun h6 => ?_, fun h6 => ?_⟩
  · simp -implicitDefEqProofs only [evb0, evb1, evb2, evb3, evb4, evb5, evb6, evb7, evb8, evb9, ↓evZ2, ↓evZ3, ↓Int.cast_ofNat_Int, implies_true, ne_eq, or_false, false_or, or_self, gt_iff_lt, isMut, aFn, List.contains, List.elem, aBox, aField, aLoad, sub, aNil, aPick, aExt, aFld, gd, noJunk, plainOp, aBuildSlice, aBuild, aFill, aParts, seqParts, fitAll, List.range', ↓reduceIte, reduceCtorEq, Nat.reduceEqDiff, Nat.reduceAdd, Nat.reduceLeDiff, Nat.reduceMul, Nat.reduceLT, Nat.reduceBEq, Int.reduceEq, tf_C1_44]
    have h7 : clSame x y = false := by simpa using h6
    rw [eqL_at _ i x y hx hy h7]
  have h7 : clSame x y = true := by simpa using h6
  simp -implicitDefEqProofs only [evb0, evb1, evb2, evb3, evb4, evb5, evb6, evb7, evb8, evb9, ↓evZ2, ↓evZ3, ↓Int.cast_ofNat_Int, implies_true, ne_eq, or_false, false_or, or_self, gt_iff_lt, isMut, aFn, List.contains, List.elem, aBox, aField, aLoad, sub, aNil, aPick, aExt, aFld, gd, noJunk, plainOp, aBuildSlice, aBuild, aFill, aParts, seqParts, fitAll, List.range', ↓reduceIte, reduceCtorEq, Nat.reduceEqDiff, Nat.reduceAdd, Nat.reduceLeDiff, Nat.reduceMul, Nat.reduceLT, Nat.reduceBEq, Int.reduceEq, tf_C1_44]
  refine ⟨i + 1, by omega, ⟨by omega, fun j u v hj hu hv => ?_⟩, LessL.mk ?_⟩
  · rcases Nat.lt_or_ge j i with h8 | h8
    · exact hall j u v h8 hu hv
    · obtain rfl : j = i := by omega
      rw [hx] at hu; rw [hy] at hv; cases hu; cases hv; exact h7
  · have := wrap64 (n := (i : Int) + 1) (by omega) (by omega)
    simp -implicitDefEqProofs only [this, evb0, evb1, evb2, evb3, evb4, evb5, evb6, evb7, evb8, evb9, ↓evZ2, ↓evZ3, ↓Int.cast_ofNat_Int, implies_true, ne_eq, or_false, false_or, or_self, gt_iff_lt, isMut, aFn, List.contains, List.elem, aBox, aField, aLoad, sub, aNil, aPick, aExt, aFld, gd, noJunk, plainOp, aBuildSlice, aBuild, aFill, aParts, seqParts, fitAll, List.range', ↓reduceIte, reduceCtorEq, Nat.reduceEqDiff, Nat.reduceAdd, Nat.reduceLeDiff, Nat.reduceMul, Nat.reduceLT, Nat.reduceBEq, Int.reduceEq, tf_C1_44]

theorem tf_C1_39 : (type_of% tI_2) ∧ (type_of% zI_2) ∧ (type_of% Go.Proofs.Try.underlying2) ∧ (type_of% tI_3) ∧ (type_of% zI_3) ∧ (type_of% Go.Proofs.Try.underlying3) ∧ (type_of% tI_4) ∧ (type_of% zI_4) ∧ (type_of% Go.Proofs.Try.underlying4) ∧ (type_of% tI_5) ∧ (type_of% zI_5) ∧ (type_of% Go.Proofs.Try.underlying5) ∧ (type_of% tI_6) ∧ (type_of% zI_6) ∧ (type_of% Go.Proofs.Try.underlying6) ∧ (type_of% tI_7) ∧ (type_of% zI_7) ∧ (type_of% fI_7_0) ∧ (type_of% fI_7_1) ∧ (type_of% fI_7_2) ∧ (type_of% fI_7_3) ∧ (type_of% bI_7) ∧ (type_of% tI_8) ∧ (type_of% zI_8) ∧ (type_of% fI_8_0) ∧ (type_of% fI_8_1) ∧ (type_of% fI_8_2) ∧ (type_of% fI_8_3) ∧ (type_of% bI_8) ∧ (type_of% tI_9) ∧ (type_of% zI_9) ∧ (type_of% Go.Proofs.Try.underlying9) ∧ (type_of% tI_10) ∧ (type_of% zI_10) ∧ (type_of% Go.Proofs.Try.underlying10) ∧ (type_of% tI_12) ∧ (type_of% zI_12) ∧ (type_of% Go.Proofs.Try.underlying12) ∧ (type_of% tI_13) ∧ (type_of% zI_13) ∧ (type_of% fI_13_0) ∧ (type_of% fI_13_1) ∧ (type_of% bI_13) ∧ (type_of% tI_14) ∧ (type_of% zI_14) ∧ (type_of% fI_14_0) ∧ (type_of% fI_14_1) ∧ (type_of% bI_14) ∧ (type_of% tI_21) ∧ (type_of% zI_21) ∧ (type_of% Go.Proofs.Try.underlying21) ∧ (type_of% tI_22) ∧ (type_of% zI_22) ∧ (type_of% eI_22) ∧ (type_of% eB_22) ∧ (type_of% eZ_22) ∧ (type_of% Go.Proofs.Try.underlying22) ∧ (type_of% tI_23) ∧ (type_of% zI_23) ∧ (type_of% fI_23_0) ∧ (type_of% bI_23) ∧ (type_of% tI_27) ∧ (type_of% zI_27) ∧ (type_of% eI_27) ∧ (type_of% eB_27) ∧ (type_of% eZ_27) ∧ (type_of% Go.Proofs.Try.underlying27) ∧ (type_of% tI_64) ∧ (type_of% zI_64) ∧ (type_of% fI_64_0) ∧ (type_of% fI_64_1) ∧ (type_of% bI_64) ∧ (type_of% tI_71) ∧ (type_of% zI_71) ∧ (type_of% eI_71) ∧ (type_of% eB_71) ∧ (type_of% eZ_71) ∧ (type_of% Go.Proofs.Try.underlying71) ∧ (type_of% tI_93) ∧ (type_of% zI_93) ∧ (type_of% eI_93) ∧ (type_of% eB_93) ∧ (type_of% eZ_93) ∧ (type_of% Go.Proofs.Try.underlying93) ∧ (type_of% tI_132) ∧ (type_of% zI_132) ∧ (type_of% fI_132_0) ∧ (type_of% fI_132_1) ∧ (type_of% bI_132) ∧ (type_of% tI_182) ∧ (type_of% zI_182) ∧ (type_of% eI_182) ∧ (type_of% eB_182) ∧ (type_of% eZ_182) ∧ (type_of% Go.Proofs.Try.underlying182) := ⟨tI_2, zI_2, Go.Proofs.Try.underlying2, tI_3, zI_3, Go.Proofs.Try.underlying3, tI_4, zI_4, Go.Proofs.Try.underlying4, tI_5, zI_5, Go.Proofs.Try.underlying5, tI_6, zI_6, Go.Proofs.Try.underlying6, tI_7, zI_7, fI_7_0, fI_7_1, fI_7_2, fI_7_3, bI_7, tI_8, zI_8, fI_8_0, fI_8_1, fI_8_2, fI_8_3, bI_8, tI_9, zI_9, Go.Proofs.Try.underlying9, tI_10, zI_10, Go.Proofs.Try.underlying10, tI_12, zI_12, Go.Proofs.Try.underlying12, tI_13, zI_13, fI_13_0, fI_13_1, bI_13, tI_14, zI_14, fI_14_0, fI_14_1, bI_14, tI_21, zI_21, Go.Proofs.Try.underlying21, tI_22, zI_22, eI_22, eB_22, eZ_22, Go.Proofs.Try.underlying22, tI_23, zI_23, fI_23_0, bI_23, tI_27, zI_27, eI_27, eB_27, eZ_27, Go.Proofs.Try.underlying27, tI_64, zI_64, fI_64_0, fI_64_1, bI_64, tI_71, zI_71, eI_71, eB_71, eZ_71, Go.Proofs.Try.underlying71, tI_93, zI_93, eI_93, eB_93, eZ_93, Go.Proofs.Try.underlying93, tI_132, zI_132, fI_132_0, fI_132_1, bI_132, tI_182, zI_182, eI_182, eB_182, eZ_182, Go.Proofs.Try.underlying182⟩
theorem c_szClauseS (l : List Cl) (left : Int) (st : Store) (h0 : 0 ≤ left) (h1 : left ≤ 1048576) (hc : ∀ x ∈ l, ∀ (left : Int) (st : Store), 0 ≤ left → left ≤ 1048576 → ACalls prog 93 [clAv x, .int .i64 left] st (fun r st' => r = .int .i64 (szR left (clSz x)) ∧ st' = st)) :
    ACalls prog 39 [.slice (l.map clAv), .int .i64 left] st (fun r st' => r = .int .i64 (szR left (l.length + sumL clSz l)) ∧ st' = st) := by
  refine acalls_fit [] func39 ntmps39 rfl rfl (by kernel_rfl) (by decide +kernel) (by show 2 ≤ _; decide +kernel) ?_
  simp only [fitsL, AV.fits, and_true, List.length_map]
  intro ⟨hl, _⟩
  have hw := wrap64 (n := left - (l.length : Int)) (by omega) (by omega)
  simp -implicitDefEqProofs only [List.length_map, hw, evb0, evb1, evb2, evb3, evb4, evb5, evb6, evb7, evb8, evb9, ↓evZ2, ↓evZ3, ↓Int.cast_ofNat_Int, implies_true, ne_eq, or_false, false_or, or_self, gt_iff_lt, isMut, aFn, List.contains, List.elem, aBox, aField, aLoad, sub, aNil, aPick, aExt, aFld, gd, noJunk, plainOp, aBuildSlice, aBuild, aFill, aParts, seqParts, fitAll, List.range', ↓reduceIte, reduceCtorEq, Nat.reduceEqDiff, Nat.reduceAdd, Nat.reduceLeDiff, Nat.reduceMul, Nat.reduceLT, Nat.reduceBEq, Int.reduceEq, tf_C1_39]
  refine ⟨fun h4 => ?_, fun h4 => ?_⟩
  · simp -implicitDefEqProofs only [evb0, evb1, evb2, evb3, evb4, evb5, evb6, evb7, evb8, evb9, ↓evZ2, ↓evZ3, ↓Int.cast_ofNat_Int, implies_true, ne_eq, or_false, false_or, or_self, gt_iff_lt, isMut, aFn, List.contains, List.elem, aBox, aField, aLoad, sub, aNil, aPick, aExt, aFld, gd, noJunk, plainOp, aBuildSlice, aBuild, aFill, aParts, seqParts, fitAll, List.range', ↓reduceIte, reduceCtorEq, Nat.reduceEqDiff, Nat.reduceAdd, Nat.reduceLeDiff, Nat.reduceMul, Nat.reduceLT, Nat.reduceBEq, Int.reduceEq, tf_C1_39]
    simp only [decide_eq_true_eq] at h4
    simp only [szR]
    rw [if_pos (by omega)]
  simp only [decide_eq_false_iff_not] at h4
  simp -implicitDefEqProofs only [evb0, evb1, evb2, evb3, evb4, evb5, evb6, evb7, evb8, evb9, ↓evZ2, ↓evZ3, ↓Int.cast_ofNat_Int, implies_true, ne_eq, or_false, false_or, or_self, gt_iff_lt, isMut, aFn, List.contains, List.elem, aBox, aField, aLoad, sub, aNil, aPick, aExt, aFld, gd, noJunk, plainOp, aBuildSlice, aBuild, aFill, aParts, seqParts, fitAll, List.range', ↓reduceIte, reduceCtorEq, Nat.reduceEqDiff, Nat.reduceAdd, Nat.reduceLeDiff, Nat.reduceMul, Nat.reduceLT, Nat.reduceBEq, Int.reduceEq, tf_C1_39]
  refine arun_loopL (α := Nat) [] (fun i => i ≤ l.length ∧ ((l.length + sumL clSz (l.take i) : Nat) : Int) ≤ left)
    (fun i => [(0, .slice (l.map clAv)), (1, .int .i64 (left - ((l.length + sumL clSz (l.take i) : Nat) : Int))), (5, .int .i64 i)]) (fun _ => st) (fun i => l.length - i) (by decide +kernel)
    ⟨0, ⟨by omega, by simp only [List.take_zero, sumL]; omega⟩, LessL.mk (by simp -implicitDefEqProofs only [sumL, Nat.add_zero, evb0, evb1, evb2, evb3, evb4, evb5, evb6, evb7, evb8, evb9, ↓evZ2, ↓evZ3, ↓Int.cast_ofNat_Int, implies_true, ne_eq, or_false, false_or, or_self, gt_iff_lt, isMut, aFn, List.contains, List.elem, aBox, aField, aLoad, sub, aNil, aPick, aExt, aFld, gd, noJunk, plainOp, aBuildSlice, aBuild, aFill, aParts, seqParts, fitAll, List.range', ↓reduceIte, reduceCtorEq, Nat.reduceEqDiff, Nat.reduceAdd, Nat.reduceLeDiff, Nat.reduceMul, Nat.reduceLT, Nat.reduceBEq, Int.reduceEq, tf_C1_39])⟩ ?_
  intro i ⟨hi, hle⟩
  simp -implicitDefEqProofs only [List.length_map, evb0, evb1, evb2, evb3, evb4, evb5, evb6, evb7, evb8, evb9, ↓evZ2, ↓evZ3, ↓Int.cast_ofNat_Int, implies_true, ne_eq, or_false, false_or, or_self, gt_iff_lt, isMut, aFn, List.contains, List.elem, aBox, aField, aLoad, sub, aNil, aPick, aExt, aFld, gd, noJunk, plainOp, aBuildSlice, aBuild, aFill, aParts, seqParts, fitAll, List.range', ↓reduceIte, reduceCtorEq, Nat.reduceEqDiff, Nat.reduceAdd, Nat.reduceLeDiff, Nat.reduceMul, Nat.reduceLT, Nat.reduceBEq, Int.reduceEq, tf_C1_39]
  refine ⟨fun h5 => ?_, fun h5 => ?_⟩
  case refine_2 =>
    simp -implicitDefEqProofs only [evb0, evb1, evb2, evb3, evb4, evb5, evb6, evb7, evb8, evb9, ↓evZ2, ↓evZ3, ↓Int.cast_ofNat_Int, implies_true, ne_eq, or_false, false_or, or_self, gt_iff_lt, isMut, aFn, List.contains, List.elem, aBox, aField, aLoad, sub, aNil, aPick, aExt, aFld, gd, noJunk, plainOp, aBuildSlice, aBuild, aFill, aParts, seqParts, fitAll, List.range', ↓reduceIte, reduceCtorEq, Nat.reduceEqDiff, Nat.reduceAdd, Nat.reduceLeDiff, Nat.reduceMul, Nat.reduceLT, Nat.reduceBEq, Int.reduceEq, tf_C1_39]
    simp only [decide_eq_false_iff_not, Int.ofNat_lt] at h5
    rw [show i = l.length by omega, List.take_length] at hle ⊢
    rw [szR_pos (by omega)]
  simp only [decide_eq_true_eq, Int.ofNat_lt] at h5
  obtain ⟨x, hx⟩ : ∃ x, l[i]? = some x := ⟨_, List.getElem?_eq_getElem h5⟩
  simp -implicitDefEqProofs only [ev_at (av := clAv) eI_71 hx (clAv_width x), clAv_agg, clAv_width, evb0, evb1, evb2, evb3, evb4, evb5, evb6, evb7, evb8, evb9, ↓evZ2, ↓evZ3, ↓Int.cast_ofNat_Int, implies_true, ne_eq, or_false, false_or, or_self, gt_iff_lt, isMut, aFn, List.contains, List.elem, aBox, aField, aLoad, sub, aNil, aPick, aExt, aFld, gd, noJunk, plainOp, aBuildSlice, aBuild, aFill, aParts, seqParts, fitAll, List.range', ↓reduceIte, reduceCtorEq, Nat.reduceEqDiff, Nat.reduceAdd, Nat.reduceLeDiff, Nat.reduceMul, Nat.reduceLT, Nat.reduceBEq, Int.reduceEq, tf_C1_39]
  refine (hc x (List.mem_of_getElem? hx) _ st (by omega) (by omega)).to ?_
  have hs := sumL_take clSz hx
  simp -implicitDefEqProofs only [evb0, evb1, evb2, evb3, evb4, evb5, evb6, evb7, evb8, evb9, ↓evZ2, ↓evZ3, ↓Int.cast_ofNat_Int, implies_true, ne_eq, or_false, false_or, or_self, gt_iff_lt, isMut, aFn, List.contains, List.elem, aBox, aField, aLoad, sub, aNil, aPick, aExt, aFld, gd, noJunk, plainOp, aBuildSlice, aBuild, aFill, aParts, seqParts, fitAll, List.range', ↓reduceIte, reduceCtorEq, Nat.reduceEqDiff, Nat.reduceAdd, Nat.reduceLeDiff, Nat.reduceMul, Nat.reduceLT, Nat.reduceBEq, Int.reduceEq, tf_C1_39]
  refine ⟨fun h6 => ?_, fun h6 => ?_⟩
  · simp -implicitDefEqProofs only [evb0, evb1, evb2, evb3, evb4, evb5, evb6, evb7, evb8, evb9, ↓evZ2, ↓evZ3, ↓Int.cast_ofNat_Int, implies_true, ne_eq, or_false, false_or, or_self, gt_iff_lt, isMut, aFn, List.contains, List.elem, aBox, aField, aLoad, sub, aNil, aPick, aExt, aFld, gd, noJunk, plainOp, aBuildSlice, aBuild, aFill, aParts, seqParts, fitAll, List.range', ↓reduceIte, reduceCtorEq, Nat.reduceEqDiff, Nat.reduceAdd, Nat.reduceLeDiff, Nat.reduceMul, Nat.reduceLT, Nat.reduceBEq, Int.reduceEq, tf_C1_39]
    simp only [decide_eq_true_eq, szR_neg] at h6
    simp only [szR]
    rw [if_pos (by omega)]
  simp only [decide_eq_false_iff_not, szR_neg] at h6
  rw [szR_pos h6]
  simp -implicitDefEqProofs only [evb0, evb1, evb2, evb3, evb4, evb5, evb6, evb7, evb8, evb9, ↓evZ2, ↓evZ3, ↓Int.cast_ofNat_Int, implies_true, ne_eq, or_false, false_or, or_self, gt_iff_lt, isMut, aFn, List.contains, List.elem, aBox, aField, aLoad, sub, aNil, aPick, aExt, aFld, gd, noJunk, plainOp, aBuildSlice, aBuild, aFill, aParts, seqParts, fitAll, List.range', ↓reduceIte, reduceCtorEq, Nat.reduceEqDiff, Nat.reduceAdd, Nat.reduceLeDiff, Nat.reduceMul, Nat.reduceLT, Nat.reduceBEq, Int.reduceEq, tf_C1_39]
  refine ⟨i + 1, by omega, ⟨by omega, by omega⟩, LessL.mk ?_⟩
  · have := wrap64 (n := (i : Int) + 1) (by omega) (by omega)
    have e : (left - ((l.length + sumL clSz (l.take (i + 1)) : Nat) : Int)) = left - ((l.length + sumL clSz (l.take i) : Nat) : Int) - ((clSz x : Nat) : Int) := by omega
    simp -implicitDefEqProofs only [this, e, evb0, evb1, evb2, evb3, evb4, evb5, evb6, evb7, evb8, evb9, ↓evZ2, ↓evZ3, ↓Int.cast_ofNat_Int, implies_true, ne_eq, or_false, false_or, or_self, gt_iff_lt, isMut, aFn, List.contains, List.elem, aBox, aField, aLoad, sub, aNil, aPick, aExt, aFld, gd, noJunk, plainOp, aBuildSlice, aBuild, aFill, aParts, seqParts, fitAll, List.range', ↓reduceIte, reduceCtorEq, Nat.reduceEqDiff, Nat.reduceAdd, Nat.reduceLeDiff, Nat.reduceMul, Nat.reduceLT, Nat.reduceBEq, Int.reduceEq, tf_C1_39]

theorem tf_C1_41 : (type_of% tI_2) ∧ (type_of% zI_2) ∧ (type_of% Go.Proofs.Try.underlying2) ∧ (type_of% tI_3) ∧ (type_of% zI_3) ∧ (type_of% Go.Proofs.Try.underlying3) ∧ (type_of% tI_4) ∧ (type_of% zI_4) ∧ (type_of% Go.Proofs.Try.underlying4) ∧ (type_of% tI_5) ∧ (type_of% zI_5) ∧ (type_of% Go.Proofs.Try.underlying5) ∧ (type_of% tI_6) ∧ (type_of% zI_6) ∧ (type_of% Go.Proofs.Try.underlying6) ∧ (type_of% tI_8) ∧ (type_of% zI_8) ∧ (type_of% fI_8_0) ∧ (type_of% fI_8_1) ∧ (type_of% fI_8_2) ∧ (type_of% fI_8_3) ∧ (type_of% bI_8) ∧ (type_of% tI_9) ∧ (type_of% zI_9) ∧ (type_of% Go.Proofs.Try.underlying9) ∧ (type_of% tI_10) ∧ (type_of% zI_10) ∧ (type_of% Go.Proofs.Try.underlying10) ∧ (type_of% tI_19) ∧ (type_of% zI_19) ∧ (type_of% fI_19_0) ∧ (type_of% bI_19) ∧ (type_of% tI_21) ∧ (type_of% zI_21) ∧ (type_of% Go.Proofs.Try.underlying21) ∧ (type_of% tI_23) ∧ (type_of% zI_23) ∧ (type_of% fI_23_0) ∧ (type_of% bI_23) ∧ (type_of% tI_64) ∧ (type_of% zI_64) ∧ (type_of% fI_64_0) ∧ (type_of% fI_64_1) ∧ (type_of% bI_64) ∧ (type_of% tI_71) ∧ (type_of% zI_71) ∧ (type_of% eI_71) ∧ (type_of% eB_71) ∧ (type_of% eZ_71) ∧ (type_of% Go.Proofs.Try.underlying71) ∧ (type_of% tI_73) ∧ (type_of% zI_73) ∧ (type_of% eI_73) ∧ (type_of% eB_73) ∧ (type_of% eZ_73) ∧ (type_of% Go.Proofs.Try.underlying73) ∧ (type_of% tI_132) ∧ (type_of% zI_132) ∧ (type_of% fI_132_0) ∧ (type_of% fI_132_1) ∧ (type_of% bI_132) ∧ (type_of% tI_136) ∧ (type_of% zI_136) ∧ (type_of% fI_136_0) ∧ (type_of% fI_136_1) ∧ (type_of% bI_136) := ⟨tI_2, zI_2, Go.Proofs.Try.underlying2, tI_3, zI_3, Go.Proofs.Try.underlying3, tI_4, zI_4, Go.Proofs.Try.underlying4, tI_5, zI_5, Go.Proofs.Try.underlying5, tI_6, zI_6, Go.Proofs.Try.underlying6, tI_8, zI_8, fI_8_0, fI_8_1, fI_8_2, fI_8_3, bI_8, tI_9, zI_9, Go.Proofs.Try.underlying9, tI_10, zI_10, Go.Proofs.Try.underlying10, tI_19, zI_19, fI_19_0, bI_19, tI_21, zI_21, Go.Proofs.Try.underlying21, tI_23, zI_23, fI_23_0, bI_23, tI_64, zI_64, fI_64_0, fI_64_1, bI_64, tI_71, zI_71, eI_71, eB_71, eZ_71, Go.Proofs.Try.underlying71, tI_73, zI_73, eI_73, eB_73, eZ_73, Go.Proofs.Try.underlying73, tI_132, zI_132, fI_132_0, fI_132_1, bI_132, tI_136, zI_136, fI_136_0, fI_136_1, bI_136⟩
theorem o_toClauseS (l : List Cl) (st : Store) (hb : l.length ≤ 1048576) (hc : ∀ x ∈ l, ∀ (st : Store), ACalls prog 96 [clAv x] st (Made st (clAv x))) :
    ACalls prog 41 [.slice (l.map clAv)] st (Made st (.slice (l.map clAv))) := by
  refine acalls_fit [] func41 ntmps41 rfl rfl (by kernel_rfl) (by decide +kernel) (by show 1 ≤ _; decide +kernel) ?_
  intro _
  simp -implicitDefEqProofs only [List.length_map, aMakeSlice, evb0, evb1, evb2, evb3, evb4, evb5, evb6, evb7, evb8, evb9, ↓evZ2, ↓evZ3, ↓Int.cast_ofNat_Int, implies_true, ne_eq, or_false, false_or, or_self, gt_iff_lt, isMut, aFn, List.contains, List.elem, aBox, aField, aLoad, sub, aNil, aPick, aExt, aFld, gd, noJunk, plainOp, aBuildSlice, aBuild, aFill, aParts, seqParts, fitAll, List.range', ↓reduceIte, reduceCtorEq, Nat.reduceEqDiff, Nat.reduceAdd, Nat.reduceLeDiff, Nat.reduceMul, Nat.reduceLT, Nat.reduceBEq, Int.reduceEq, tf_C1_41]
  refine ⟨by omega, by omega, by omega, ?_⟩
  intro b hn
  rw [Int.toNat_natCast, madeAV_eq _ (by simp)]
  refine arun_each (σ := List AV × List Nat × Store) [] [0, 2, 3] l (fun i p => OwnTo (l.map clAv) [.int .i64 0, .int .i64 0, .str ⟨#[]⟩, .fslice [], .fslice []] b st i p) (fun i _ => [(4, .int .i64 i)]) (fun _ p => p.2.2) (by decide +kernel)
    ⟨([], [], _), ?_, LessL.mk (by simp -implicitDefEqProofs only [evb0, evb1, evb2, evb3, evb4, evb5, evb6, evb7, evb8, evb9, ↓evZ2, ↓evZ3, ↓Int.cast_ofNat_Int, implies_true, ne_eq, or_false, false_or, or_self, gt_iff_lt, isMut, aFn, List.contains, List.elem, aBox, aField, aLoad, sub, aNil, aPick, aExt, aFld, gd, noJunk, plainOp, aBuildSlice, aBuild, aFill, aParts, seqParts, fitAll, List.range', ↓reduceIte, reduceCtorEq, Nat.reduceEqDiff, Nat.reduceAdd, Nat.reduceLeDiff, Nat.reduceMul, Nat.reduceLT, Nat.reduceBEq, Int.reduceEq, tf_C1_41])⟩ (fun i x p hx hlt hlt' hdr hinv => ?_) (fun p hge hinv => ?_)
  · exact OwnTo.start hn (by rw [List.length_map])
  case refine_3 =>
    obtain ⟨os, bs, s⟩ := p
    simp -implicitDefEqProofs only [List.length_map, hge, evb0, evb1, evb2, evb3, evb4, evb5, evb6, evb7, evb8, evb9, ↓evZ2, ↓evZ3, ↓Int.cast_ofNat_Int, implies_true, ne_eq, or_false, false_or, or_self, gt_iff_lt, isMut, aFn, List.contains, List.elem, aBox, aField, aLoad, sub, aNil, aPick, aExt, aFld, gd, noJunk, plainOp, aBuildSlice, aBuild, aFill, aParts, seqParts, fitAll, List.range', ↓reduceIte, reduceCtorEq, Nat.reduceEqDiff, Nat.reduceAdd, Nat.reduceLeDiff, Nat.reduceMul, Nat.reduceLT, Nat.reduceBEq, Int.reduceEq, tf_C1_41]
    exact hinv.done (List.length_map _) (fun e he => by simp only [List.mem_map] at he; obtain ⟨t, _, rfl⟩ := he; exact clAv_width t)
  obtain ⟨os, bs, s⟩ := p
  simp -implicitDefEqProofs only [List.length_map, hlt', ev_at (av := clAv) eI_71 hx (clAv_width x), clAv_agg, clAv_width, evb0, evb1, evb2, evb3, evb4, evb5, evb6, evb7, evb8, evb9, ↓evZ2, ↓evZ3, ↓Int.cast_ofNat_Int, implies_true, ne_eq, or_false, false_or, or_self, gt_iff_lt, isMut, aFn, List.contains, List.elem, aBox, aField, aLoad, sub, aNil, aPick, aExt, aFld, gd, noJunk, plainOp, aBuildSlice, aBuild, aFill, aParts, seqParts, fitAll, List.range', ↓reduceIte, reduceCtorEq, Nat.reduceEqDiff, Nat.reduceAdd, Nat.reduceLeDiff, Nat.reduceMul, Nat.reduceLT, Nat.reduceBEq, Int.reduceEq, tf_C1_41]
  refine (hc x (List.mem_of_getElem? hx) _).mono ?_
  rintro r s2 hmade
  obtain ⟨A, B, hs2, hA, hrw, hrs, hnext⟩ := hinv.step hmade (show (l.map clAv)[i]? = some (clAv x) by rw [List.getElem?_map, hx]; rfl) (clAv_width x) (fun e he => by simp only [List.mem_map] at he; obtain ⟨t, _, rfl⟩ := he; exact clAv_width t) rfl (clAv_store x) (.inl (clAv_agg x))
  have hat := held_at (b := b) (len := l.length) (w := 5) (i := i) eI_73 hlt
  obtain ⟨hp1, hp2⟩ := partE (B := B) (C := [.int .i64 0, .int .i64 0, .str ⟨#[]⟩, .fslice [], .fslice []]) (x := r.cells) hA rfl hrw
  have hw := wrap64 (n := (i : Int) + 1) (by omega) (by omega)
  simp -implicitDefEqProofs only [hat, hs2, hrw, hrs, hp1, hw, evb0, evb1, evb2, evb3, evb4, evb5, evb6, evb7, evb8, evb9, ↓evZ2, ↓evZ3, ↓Int.cast_ofNat_Int, implies_true, ne_eq, or_false, false_or, or_self, gt_iff_lt, isMut, aFn, List.contains, List.elem, aBox, aField, aLoad, sub, aNil, aPick, aExt, aFld, gd, noJunk, plainOp, aBuildSlice, aBuild, aFill, aParts, seqParts, fitAll, List.range', ↓reduceIte, reduceCtorEq, Nat.reduceEqDiff, Nat.reduceAdd, Nat.reduceLeDiff, Nat.reduceMul, Nat.reduceLT, Nat.reduceBEq, Int.reduceEq, tf_C1_41]
  refine ⟨hp2, ?_⟩
  exact ⟨_, hnext, LessL.mk (by simp -implicitDefEqProofs only [evb0, evb1, evb2, evb3, evb4, evb5, evb6, evb7, evb8, evb9, ↓evZ2, ↓evZ3, ↓Int.cast_ofNat_Int, implies_true, ne_eq, or_false, false_or, or_self, gt_iff_lt, isMut, aFn, List.contains, List.elem, aBox, aField, aLoad, sub, aNil, aPick, aExt, aFld, gd, noJunk, plainOp, aBuildSlice, aBuild, aFill, aParts, seqParts, fitAll, List.range', ↓reduceIte, reduceCtorEq, Nat.reduceEqDiff, Nat.reduceAdd, Nat.reduceLeDiff, Nat.reduceMul, Nat.reduceLT, Nat.reduceBEq, Int.reduceEq, tf_C1_41])⟩


theorem tf_C1_100 : (type_of% tI_2) ∧ (type_of% zI_2) ∧ (type_of% Go.Proofs.Try.underlying2) ∧ (type_of% tI_3) ∧ (type_of% zI_3) ∧ (type_of% Go.Proofs.Try.underlying3) ∧ (type_of% tI_4) ∧ (type_of% zI_4) ∧ (type_of% Go.Proofs.Try.underlying4) ∧ (type_of% tI_5) ∧ (type_of% zI_5) ∧ (type_of% Go.Proofs.Try.underlying5) ∧ (type_of% tI_6) ∧ (type_of% zI_6) ∧ (type_of% Go.Proofs.Try.underlying6) ∧ (type_of% tI_8) ∧ (type_of% zI_8) ∧ (type_of% fI_8_0) ∧ (type_of% fI_8_1) ∧ (type_of% fI_8_2) ∧ (type_of% fI_8_3) ∧ (type_of% bI_8) ∧ (type_of% tI_9) ∧ (type_of% zI_9) ∧ (type_of% Go.Proofs.Try.underlying9) ∧ (type_of% tI_12) ∧ (type_of% zI_12) ∧ (type_of% Go.Proofs.Try.underlying12) ∧ (type_of% tI_14) ∧ (type_of% zI_14) ∧ (type_of% fI_14_0) ∧ (type_of% fI_14_1) ∧ (type_of% bI_14) ∧ (type_of% tI_15) ∧ (type_of% zI_15) ∧ (type_of% tI_17) ∧ (type_of% zI_17) ∧ (type_of% tI_27) ∧ (type_of% zI_27) ∧ (type_of% eI_27) ∧ (type_of% eB_27) ∧ (type_of% eZ_27) ∧ (type_of% Go.Proofs.Try.underlying27) ∧ (type_of% tI_41) ∧ (type_of% zI_41) ∧ (type_of% fI_41_0) ∧ (type_of% fI_41_1) ∧ (type_of% fI_41_2) ∧ (type_of% fI_41_3) ∧ (type_of% bI_41) ∧ (type_of% tI_136) ∧ (type_of% zI_136) ∧ (type_of% fI_136_0) ∧ (type_of% fI_136_1) ∧ (type_of% bI_136) ∧ (type_of% tI_220) ∧ (type_of% zI_220) ∧ (type_of% fI_220_0) ∧ (type_of% fI_220_1) ∧ (type_of% fI_220_2) ∧ (type_of% fI_220_3) ∧ (type_of% bI_220) ∧ (type_of% tI_223) ∧ (type_of% zI_223) ∧ (type_of% bI_223) := ⟨tI_2, zI_2, Go.Proofs.Try.underlying2, tI_3, zI_3, Go.Proofs.Try.underlying3, tI_4, zI_4, Go.Proofs.Try.underlying4, tI_5, zI_5, Go.Proofs.Try.underlying5, tI_6, zI_6, Go.Proofs.Try.underlying6, tI_8, zI_8, fI_8_0, fI_8_1, fI_8_2, fI_8_3, bI_8, tI_9, zI_9, Go.Proofs.Try.underlying9, tI_12, zI_12, Go.Proofs.Try.underlying12, tI_14, zI_14, fI_14_0, fI_14_1, bI_14, tI_15, zI_15, tI_17, zI_17, tI_27, zI_27, eI_27, eB_27, eZ_27, Go.Proofs.Try.underlying27, tI_41, zI_41, fI_41_0, fI_41_1, fI_41_2, fI_41_3, bI_41, tI_136, zI_136, fI_136_0, fI_136_1, bI_136, tI_220, zI_220, fI_220_0, fI_220_1, fI_220_2, fI_220_3, bI_220, tI_223, zI_223, bI_223⟩
theorem c_eqClause (x y : Cl) (st : Store) : ACalls prog 100 [clAv x, clAv y] st (fun r st' => r = .bool (clSame x y) ∧ st' = st) := by
  obtain ⟨⟨k, n, s, ts⟩, b⟩ := x
  obtain ⟨⟨k', n', s', ts'⟩, b'⟩ := y
  have hg := fun st => c_eqTerm (.mk k n s ts) (.mk k' n' s' ts') st
  simp only [Tm.av_mk] at hg
  have hc := fun st => c_eqTermS b b' st fun x _ y st => c_eqTerm x y st
  simp only [clAv_mk]
  refine acalls_fit [1000000] func100 ntmps100 rfl rfl (by kernel_rfl) (by decide +kernel) (by show 2 ≤ _; decide +kernel) ?_
  intro _
  simp -implicitDefEqProofs only [evb0, evb1, evb2, evb3, evb4, evb5, evb6, evb7, evb8, evb9, ↓evZ2, ↓evZ3, ↓Int.cast_ofNat_Int, implies_true, ne_eq, or_false, false_or, or_self, gt_iff_lt, isMut, aFn, List.contains, List.elem, aBox, aField, aLoad, sub, aNil, aPick, aExt, aFld, gd, noJunk, plainOp, aBuildSlice, aBuild, aFill, aParts, seqParts, fitAll, List.range', ↓reduceIte, reduceCtorEq, Nat.reduceEqDiff, Nat.reduceAdd, Nat.reduceLeDiff, Nat.reduceMul, Nat.reduceLT, Nat.reduceBEq, Int.reduceEq, tf_C1_100]
  refine (hg _).to ?_
  simp only [clSame]
  simp -implicitDefEqProofs only [evb0, evb1, evb2, evb3, evb4, evb5, evb6, evb7, evb8, evb9, ↓evZ2, ↓evZ3, ↓Int.cast_ofNat_Int, implies_true, ne_eq, or_false, false_or, or_self, gt_iff_lt, isMut, aFn, List.contains, List.elem, aBox, aField, aLoad, sub, aNil, aPick, aExt, aFld, gd, noJunk, plainOp, aBuildSlice, aBuild, aFill, aParts, seqParts, fitAll, List.range', ↓reduceIte, reduceCtorEq, Nat.reduceEqDiff, Nat.reduceAdd, Nat.reduceLeDiff, Nat.reduceMul, Nat.reduceLT, Nat.reduceBEq, Int.reduceEq, tf_C1_100]
  refine cond_split (fun h1 => ?_) (fun h1 => ?_)
  · simp -implicitDefEqProofs only [evb0, evb1, evb2, evb3, evb4, evb5, evb6, evb7, evb8, evb9, ↓evZ2, ↓evZ3, ↓Int.cast_ofNat_Int, implies_true, ne_eq, or_false, false_or, or_self, gt_iff_lt, isMut, aFn, List.contains, List.elem, aBox, aField, aLoad, sub, aNil, aPick, aExt, aFld, gd, noJunk, plainOp, aBuildSlice, aBuild, aFill, aParts, seqParts, fitAll, List.range', ↓reduceIte, reduceCtorEq, Nat.reduceEqDiff, Nat.reduceAdd, Nat.reduceLeDiff, Nat.reduceMul, Nat.reduceLT, Nat.reduceBEq, Int.reduceEq, tf_C1_100]
    simp only [Bool.not_eq_true'] at h1
    simp [h1]
  simp only [Bool.not_eq_false'] at h1
  simp -implicitDefEqProofs only [evb0, evb1, evb2, evb3, evb4, evb5, evb6, evb7, evb8, evb9, ↓evZ2, ↓evZ3, ↓Int.cast_ofNat_Int, implies_true, ne_eq, or_false, false_or, or_self, gt_iff_lt, isMut, aFn, List.contains, List.elem, aBox, aField, aLoad, sub, aNil, aPick, aExt, aFld, gd, noJunk, plainOp, aBuildSlice, aBuild, aFill, aParts, seqParts, fitAll, List.range', ↓reduceIte, reduceCtorEq, Nat.reduceEqDiff, Nat.reduceAdd, Nat.reduceLeDiff, Nat.reduceMul, Nat.reduceLT, Nat.reduceBEq, Int.reduceEq, tf_C1_100]
  refine (hc _).to ?_
  simp -implicitDefEqProofs only [evb0, evb1, evb2, evb3, evb4, evb5, evb6, evb7, evb8, evb9, ↓evZ2, ↓evZ3, ↓Int.cast_ofNat_Int, implies_true, ne_eq, or_false, false_or, or_self, gt_iff_lt, isMut, aFn, List.contains, List.elem, aBox, aField, aLoad, sub, aNil, aPick, aExt, aFld, gd, noJunk, plainOp, aBuildSlice, aBuild, aFill, aParts, seqParts, fitAll, List.range', ↓reduceIte, reduceCtorEq, Nat.reduceEqDiff, Nat.reduceAdd, Nat.reduceLeDiff, Nat.reduceMul, Nat.reduceLT, Nat.reduceBEq, Int.reduceEq, tf_C1_100]
  refine cond_split (fun h2 => ?_) (fun h2 => ?_) <;> simp -implicitDefEqProofs only [evb0, evb1, evb2, evb3, evb4, evb5, evb6, evb7, evb8, evb9, ↓evZ2, ↓evZ3, ↓Int.cast_ofNat_Int, implies_true, ne_eq, or_false, false_or, or_self, gt_iff_lt, isMut, aFn, List.contains, List.elem, aBox, aField, aLoad, sub, aNil, aPick, aExt, aFld, gd, noJunk, plainOp, aBuildSlice, aBuild, aFill, aParts, seqParts, fitAll, List.range', ↓reduceIte, reduceCtorEq, Nat.reduceEqDiff, Nat.reduceAdd, Nat.reduceLeDiff, Nat.reduceMul, Nat.reduceLT, Nat.reduceBEq, Int.reduceEq, tf_C1_100]
  · simp only [Bool.not_eq_true'] at h2
    simp [h2]
  · simp only [Bool.not_eq_false'] at h2
    simp [h1, h2]

theorem tf_C1_93 : (type_of% tI_2) ∧ (type_of% zI_2) ∧ (type_of% Go.Proofs.Try.underlying2) ∧ (type_of% tI_3) ∧ (type_of% zI_3) ∧ (type_of% Go.Proofs.Try.underlying3) ∧ (type_of% tI_4) ∧ (type_of% zI_4) ∧ (type_of% Go.Proofs.Try.underlying4) ∧ (type_of% tI_5) ∧ (type_of% zI_5) ∧ (type_of% Go.Proofs.Try.underlying5) ∧ (type_of% tI_6) ∧ (type_of% zI_6) ∧ (type_of% Go.Proofs.Try.underlying6) ∧ (type_of% tI_7) ∧ (type_of% zI_7) ∧ (type_of% fI_7_0) ∧ (type_of% fI_7_1) ∧ (type_of% fI_7_2) ∧ (type_of% fI_7_3) ∧ (type_of% bI_7) ∧ (type_of% tI_8) ∧ (type_of% zI_8) ∧ (type_of% fI_8_0) ∧ (type_of% fI_8_1) ∧ (type_of% fI_8_2) ∧ (type_of% fI_8_3) ∧ (type_of% bI_8) ∧ (type_of% tI_11) ∧ (type_of% zI_11) ∧ (type_of% Go.Proofs.Try.underlying11) ∧ (type_of% tI_12) ∧ (type_of% zI_12) ∧ (type_of% Go.Proofs.Try.underlying12) ∧ (type_of% tI_13) ∧ (type_of% zI_13) ∧ (type_of% fI_13_0) ∧ (type_of% fI_13_1) ∧ (type_of% bI_13) ∧ (type_of% tI_14) ∧ (type_of% zI_14) ∧ (type_of% fI_14_0) ∧ (type_of% fI_14_1) ∧ (type_of% bI_14) ∧ (type_of% tI_18) ∧ (type_of% zI_18) ∧ (type_of% fI_18_0) ∧ (type_of% bI_18) ∧ (type_of% tI_22) ∧ (type_of% zI_22) ∧ (type_of% eI_22) ∧ (type_of% eB_22) ∧ (type_of% eZ_22) ∧ (type_of% Go.Proofs.Try.underlying22) ∧ (type_of% tI_54) ∧ (type_of% zI_54) ∧ (type_of% fI_54_0) ∧ (type_of% fI_54_1) ∧ (type_of% bI_54) ∧ (type_of% tI_64) ∧ (type_of% zI_64) ∧ (type_of% fI_64_0) ∧ (type_of% fI_64_1) ∧ (type_of% bI_64) ∧ (type_of% tI_92) ∧ (type_of% zI_92) ∧ (type_of% fI_92_0) ∧ (type_of% fI_92_1) ∧ (type_of% fI_92_2) ∧ (type_of% fI_92_3) ∧ (type_of% bI_92) ∧ (type_of% tI_132) ∧ (type_of% zI_132) ∧ (type_of% fI_132_0) ∧ (type_of% fI_132_1) ∧ (type_of% bI_132) ∧ (type_of% tI_170) ∧ (type_of% zI_170) ∧ (type_of% fI_170_0) ∧ (type_of% fI_170_1) ∧ (type_of% fI_170_2) ∧ (type_of% fI_170_3) ∧ (type_of% fI_170_4) ∧ (type_of% fI_170_5) ∧ (type_of% bI_170) := ⟨tI_2, zI_2, Go.Proofs.Try.underlying2, tI_3, zI_3, Go.Proofs.Try.underlying3, tI_4, zI_4, Go.Proofs.Try.underlying4, tI_5, zI_5, Go.Proofs.Try.underlying5, tI_6, zI_6, Go.Proofs.Try.underlying6, tI_7, zI_7, fI_7_0, fI_7_1, fI_7_2, fI_7_3, bI_7, tI_8, zI_8, fI_8_0, fI_8_1, fI_8_2, fI_8_3, bI_8, tI_11, zI_11, Go.Proofs.Try.underlying11, tI_12, zI_12, Go.Proofs.Try.underlying12, tI_13, zI_13, fI_13_0, fI_13_1, bI_13, tI_14, zI_14, fI_14_0, fI_14_1, bI_14, tI_18, zI_18, fI_18_0, bI_18, tI_22, zI_22, eI_22, eB_22, eZ_22, Go.Proofs.Try.underlying22, tI_54, zI_54, fI_54_0, fI_54_1, bI_54, tI_64, zI_64, fI_64_0, fI_64_1, bI_64, tI_92, zI_92, fI_92_0, fI_92_1, fI_92_2, fI_92_3, bI_92, tI_132, zI_132, fI_132_0, fI_132_1, bI_132, tI_170, zI_170, fI_170_0, fI_170_1, fI_170_2, fI_170_3, fI_170_4, fI_170_5, bI_170⟩
theorem c_szClause (c : Cl) (left : Int) (st : Store) (h0 : 0 ≤ left) (h1 : left ≤ 1048576) : ACalls prog 93 [clAv c, .int .i64 left] st (fun r st' => r = .int .i64 (szR left (clSz c)) ∧ st' = st) := by
  obtain ⟨⟨k, n, s, ts⟩, b⟩ := c
  have hg := fun st => c_szTerm (.mk k n s ts) left st h0 h1
  simp only [Tm.av_mk] at hg
  simp only [clAv_mk, clSz]
  generalize (Tm.mk k n s ts).sz = z at hg ⊢
  have hsl : szL b = b.length + sumL Tm.sz b := rfl
  refine acalls_fit [1000000] func93 ntmps93 rfl rfl (by kernel_rfl) (by decide +kernel) (by show 2 ≤ _; decide +kernel) ?_
  intro _
  simp -implicitDefEqProofs only [evb0, evb1, evb2, evb3, evb4, evb5, evb6, evb7, evb8, evb9, ↓evZ2, ↓evZ3, ↓Int.cast_ofNat_Int, implies_true, ne_eq, or_false, false_or, or_self, gt_iff_lt, isMut, aFn, List.contains, List.elem, aBox, aField, aLoad, sub, aNil, aPick, aExt, aFld, gd, noJunk, plainOp, aBuildSlice, aBuild, aFill, aParts, seqParts, fitAll, List.range', ↓reduceIte, reduceCtorEq, Nat.reduceEqDiff, Nat.reduceAdd, Nat.reduceLeDiff, Nat.reduceMul, Nat.reduceLT, Nat.reduceBEq, Int.reduceEq, tf_C1_93]
  refine (hg _).to ?_
  simp -implicitDefEqProofs only [evb0, evb1, evb2, evb3, evb4, evb5, evb6, evb7, evb8, evb9, ↓evZ2, ↓evZ3, ↓Int.cast_ofNat_Int, implies_true, ne_eq, or_false, false_or, or_self, gt_iff_lt, isMut, aFn, List.contains, List.elem, aBox, aField, aLoad, sub, aNil, aPick, aExt, aFld, gd, noJunk, plainOp, aBuildSlice, aBuild, aFill, aParts, seqParts, fitAll, List.range', ↓reduceIte, reduceCtorEq, Nat.reduceEqDiff, Nat.reduceAdd, Nat.reduceLeDiff, Nat.reduceMul, Nat.reduceLT, Nat.reduceBEq, Int.reduceEq, tf_C1_93]
  refine cond_split (fun h2 => ?_) (fun h2 => ?_)
  · simp -implicitDefEqProofs only [evb0, evb1, evb2, evb3, evb4, evb5, evb6, evb7, evb8, evb9, ↓evZ2, ↓evZ3, ↓Int.cast_ofNat_Int, implies_true, ne_eq, or_false, false_or, or_self, gt_iff_lt, isMut, aFn, List.contains, List.elem, aBox, aField, aLoad, sub, aNil, aPick, aExt, aFld, gd, noJunk, plainOp, aBuildSlice, aBuild, aFill, aParts, seqParts, fitAll, List.range', ↓reduceIte, reduceCtorEq, Nat.reduceEqDiff, Nat.reduceAdd, Nat.reduceLeDiff, Nat.reduceMul, Nat.reduceLT, Nat.reduceBEq, Int.reduceEq, tf_C1_93]
    simp only [decide_eq_true_eq, szR_neg] at h2
    simp only [szR]
    rw [if_pos (by omega)]
  simp only [decide_eq_false_iff_not, szR_neg] at h2
  rw [szR_pos h2]
  simp -implicitDefEqProofs only [evb0, evb1, evb2, evb3, evb4, evb5, evb6, evb7, evb8, evb9, ↓evZ2, ↓evZ3, ↓Int.cast_ofNat_Int, implies_true, ne_eq, or_false, false_or, or_self, gt_iff_lt, isMut, aFn, List.contains, List.elem, aBox, aField, aLoad, sub, aNil, aPick, aExt, aFld, gd, noJunk, plainOp, aBuildSlice, aBuild, aFill, aParts, seqParts, fitAll, List.range', ↓reduceIte, reduceCtorEq, Nat.reduceEqDiff, Nat.reduceAdd, Nat.reduceLeDiff, Nat.reduceMul, Nat.reduceLT, Nat.reduceBEq, Int.reduceEq, tf_C1_93]
  refine (c_szTermS' b _ _ (by omega) (by omega)).to ?_
  simp -implicitDefEqProofs only [evb0, evb1, evb2, evb3, evb4, evb5, evb6, evb7, evb8, evb9, ↓evZ2, ↓evZ3, ↓Int.cast_ofNat_Int, implies_true, ne_eq, or_false, false_or, or_self, gt_iff_lt, isMut, aFn, List.contains, List.elem, aBox, aField, aLoad, sub, aNil, aPick, aExt, aFld, gd, noJunk, plainOp, aBuildSlice, aBuild, aFill, aParts, seqParts, fitAll, List.range', ↓reduceIte, reduceCtorEq, Nat.reduceEqDiff, Nat.reduceAdd, Nat.reduceLeDiff, Nat.reduceMul, Nat.reduceLT, Nat.reduceBEq, Int.reduceEq, tf_C1_93]
  refine cond_split (fun h3 => ?_) (fun h3 => ?_)
  · simp -implicitDefEqProofs only [evb0, evb1, evb2, evb3, evb4, evb5, evb6, evb7, evb8, evb9, ↓evZ2, ↓evZ3, ↓Int.cast_ofNat_Int, implies_true, ne_eq, or_false, false_or, or_self, gt_iff_lt, isMut, aFn, List.contains, List.elem, aBox, aField, aLoad, sub, aNil, aPick, aExt, aFld, gd, noJunk, plainOp, aBuildSlice, aBuild, aFill, aParts, seqParts, fitAll, List.range', ↓reduceIte, reduceCtorEq, Nat.reduceEqDiff, Nat.reduceAdd, Nat.reduceLeDiff, Nat.reduceMul, Nat.reduceLT, Nat.reduceBEq, Int.reduceEq, tf_C1_93]
    simp only [decide_eq_true_eq, szR_neg] at h3
    simp only [szR]
    rw [if_pos (by omega)]
  · simp -implicitDefEqProofs only [evb0, evb1, evb2, evb3, evb4, evb5, evb6, evb7, evb8, evb9, ↓evZ2, ↓evZ3, ↓Int.cast_ofNat_Int, implies_true, ne_eq, or_false, false_or, or_self, gt_iff_lt, isMut, aFn, List.contains, List.elem, aBox, aField, aLoad, sub, aNil, aPick, aExt, aFld, gd, noJunk, plainOp, aBuildSlice, aBuild, aFill, aParts, seqParts, fitAll, List.range', ↓reduceIte, reduceCtorEq, Nat.reduceEqDiff, Nat.reduceAdd, Nat.reduceLeDiff, Nat.reduceMul, Nat.reduceLT, Nat.reduceBEq, Int.reduceEq, tf_C1_93]
    simp only [decide_eq_false_iff_not, szR_neg] at h3
    rw [szR_pos h3, szR_pos (by omega)]
    congr 1
    omega

theorem tf_C1_96 : (type_of% tI_2) ∧ (type_of% zI_2) ∧ (type_of% Go.Proofs.Try.underlying2) ∧ (type_of% tI_3) ∧ (type_of% zI_3) ∧ (type_of% Go.Proofs.Try.underlying3) ∧ (type_of% tI_4) ∧ (type_of% zI_4) ∧ (type_of% Go.Proofs.Try.underlying4) ∧ (type_of% tI_5) ∧ (type_of% zI_5) ∧ (type_of% Go.Proofs.Try.underlying5) ∧ (type_of% tI_6) ∧ (type_of% zI_6) ∧ (type_of% Go.Proofs.Try.underlying6) ∧ (type_of% tI_9) ∧ (type_of% zI_9) ∧ (type_of% Go.Proofs.Try.underlying9) ∧ (type_of% tI_10) ∧ (type_of% zI_10) ∧ (type_of% Go.Proofs.Try.underlying10) ∧ (type_of% tI_13) ∧ (type_of% zI_13) ∧ (type_of% fI_13_0) ∧ (type_of% fI_13_1) ∧ (type_of% bI_13) ∧ (type_of% tI_14) ∧ (type_of% zI_14) ∧ (type_of% fI_14_0) ∧ (type_of% fI_14_1) ∧ (type_of% bI_14) ∧ (type_of% tI_22) ∧ (type_of% zI_22) ∧ (type_of% eI_22) ∧ (type_of% eB_22) ∧ (type_of% eZ_22) ∧ (type_of% Go.Proofs.Try.underlying22) ∧ (type_of% tI_27) ∧ (type_of% zI_27) ∧ (type_of% eI_27) ∧ (type_of% eB_27) ∧ (type_of% eZ_27) ∧ (type_of% Go.Proofs.Try.underlying27) ∧ (type_of% tI_41) ∧ (type_of% zI_41) ∧ (type_of% fI_41_0) ∧ (type_of% fI_41_1) ∧ (type_of% fI_41_2) ∧ (type_of% fI_41_3) ∧ (type_of% bI_41) ∧ (type_of% tI_58) ∧ (type_of% zI_58) ∧ (type_of% fI_58_0) ∧ (type_of% fI_58_1) ∧ (type_of% bI_58) ∧ (type_of% tI_92) ∧ (type_of% zI_92) ∧ (type_of% fI_92_0) ∧ (type_of% fI_92_1) ∧ (type_of% fI_92_2) ∧ (type_of% fI_92_3) ∧ (type_of% bI_92) ∧ (type_of% tI_126) ∧ (type_of% zI_126) ∧ (type_of% fI_126_0) ∧ (type_of% fI_126_1) ∧ (type_of% bI_126) ∧ (type_of% tI_132) ∧ (type_of% zI_132) ∧ (type_of% fI_132_0) ∧ (type_of% fI_132_1) ∧ (type_of% bI_132) ∧ (type_of% tI_136) ∧ (type_of% zI_136) ∧ (type_of% fI_136_0) ∧ (type_of% fI_136_1) ∧ (type_of% bI_136) := ⟨tI_2, zI_2, Go.Proofs.Try.underlying2, tI_3, zI_3, Go.Proofs.Try.underlying3, tI_4, zI_4, Go.Proofs.Try.underlying4, tI_5, zI_5, Go.Proofs.Try.underlying5, tI_6, zI_6, Go.Proofs.Try.underlying6, tI_9, zI_9, Go.Proofs.Try.underlying9, tI_10, zI_10, Go.Proofs.Try.underlying10, tI_13, zI_13, fI_13_0, fI_13_1, bI_13, tI_14, zI_14, fI_14_0, fI_14_1, bI_14, tI_22, zI_22, eI_22, eB_22, eZ_22, Go.Proofs.Try.underlying22, tI_27, zI_27, eI_27, eB_27, eZ_27, Go.Proofs.Try.underlying27, tI_41, zI_41, fI_41_0, fI_41_1, fI_41_2, fI_41_3, bI_41, tI_58, zI_58, fI_58_0, fI_58_1, bI_58, tI_92, zI_92, fI_92_0, fI_92_1, fI_92_2, fI_92_3, bI_92, tI_126, zI_126, fI_126_0, fI_126_1, bI_126, tI_132, zI_132, fI_132_0, fI_132_1, bI_132, tI_136, zI_136, fI_136_0, fI_136_1, bI_136⟩
theorem o_toClause (c : Cl) (st : Store) (hb : clSz c ≤ 1048576) : ACalls prog 96 [clAv c] st (Made st (clAv c)) := by
  obtain ⟨⟨k, n, s, ts⟩, bd⟩ := c
  unfold clSz at hb
  simp only at hb
  have hc := fun st => o_toTermS' bd st (by unfold szL; omega)
  have hg := fun st => o_toTerm (.mk k n s ts) st (by omega)
  simp only [Tm.av_mk] at hg
  simp only [clAv_mk]
  refine ACalls.madeJ ?_
  refine acalls_fit [1000000] func96 ntmps96 rfl rfl (by kernel_rfl) (by decide +kernel) (by show 1 ≤ _; decide +kernel) ?_
  intro _
  simp -implicitDefEqProofs only [setCells, evb0, evb1, evb2, evb3, evb4, evb5, evb6, evb7, evb8, evb9, ↓evZ2, ↓evZ3, ↓Int.cast_ofNat_Int, implies_true, ne_eq, or_false, false_or, or_self, gt_iff_lt, isMut, aFn, List.contains, List.elem, aBox, aField, aLoad, sub, aNil, aPick, aExt, aFld, gd, noJunk, plainOp, aBuildSlice, aBuild, aFill, aParts, seqParts, fitAll, List.range', ↓reduceIte, reduceCtorEq, Nat.reduceEqDiff, Nat.reduceAdd, Nat.reduceLeDiff, Nat.reduceMul, Nat.reduceLT, Nat.reduceBEq, Int.reduceEq, tf_C1_96]
  intro b hb1 b2 hb2
  have hne : b2 ≠ b := by rintro rfl; rw [Store.upd_same] at hb2; cases hb2
  have hn2 : st b2 = none := by rw [Store.upd_ne st _ hne] at hb2; exact hb2
  refine (hg _).mono ?_
  rintro q0 s2 ⟨bs, m1, m2, m3, m4⟩
  rw [← Tm.av_mk] at m3
  obtain ⟨q, rfl, m3'⟩ := own_Tm.1 m3
  have hbb : b ∉ bs := fun h => by have := m2 b h; simp [su_eq, hne, hne.symm] at this
  have hbb2 : b2 ∉ bs := fun h => by have := m2 b2 h; simp [su_eq] at this
  have e1 := m4 b hbb
  have e2 := m4 b2 hbb2
  simp only [su_eq, hne, hne.symm, if_true, if_false] at e1 e2
  obtain ⟨hqc, hqs, hqa, hqw, hqj⟩ := Own.one' m3'
  simp -implicitDefEqProofs only [setCells, su_eq, hne, hne.symm, e1, e2, hqc, hqs, hqa, hqw, hqj, evb0, evb1, evb2, evb3, evb4, evb5, evb6, evb7, evb8, evb9, ↓evZ2, ↓evZ3, ↓Int.cast_ofNat_Int, implies_true, ne_eq, or_false, false_or, or_self, gt_iff_lt, isMut, aFn, List.contains, List.elem, aBox, aField, aLoad, sub, aNil, aPick, aExt, aFld, gd, noJunk, plainOp, aBuildSlice, aBuild, aFill, aParts, seqParts, fitAll, List.range', ↓reduceIte, reduceCtorEq, Nat.reduceEqDiff, Nat.reduceAdd, Nat.reduceLeDiff, Nat.reduceMul, Nat.reduceLT, Nat.reduceBEq, Int.reduceEq, tf_C1_96]
  refine (hc _).mono ?_
  rintro r s3 ⟨cs, n1, n2, n3, n4⟩
  have hcb2 : b2 ∉ cs := fun h => by have := n2 b2 h; simp [su_eq] at this
  have hcb : b ∉ cs := fun h => by have := n2 b h; simp [su_eq, hne, hne.symm, e1] at this
  have f1 := n4 b hcb
  have f2 := n4 b2 hcb2
  simp only [su_eq, hne, hne.symm, if_true, if_false, e1] at f1 f2
  obtain ⟨hrc, hrs, hra, hrw, hrj⟩ := Own.one' n3
  simp -implicitDefEqProofs only [Store.upd_upd, setCells, su_eq, hne, hne.symm, f1, f2, hqc, hqs, hqa, hqw, hqj, hrc, hrs, hra, hrw, hrj, evb0, evb1, evb2, evb3, evb4, evb5, evb6, evb7, evb8, evb9, ↓evZ2, ↓evZ3, ↓Int.cast_ofNat_Int, implies_true, ne_eq, or_false, false_or, or_self, gt_iff_lt, isMut, aFn, List.contains, List.elem, aBox, aField, aLoad, sub, aNil, aPick, aExt, aFld, gd, noJunk, plainOp, aBuildSlice, aBuild, aFill, aParts, seqParts, fitAll, List.range', ↓reduceIte, reduceCtorEq, Nat.reduceEqDiff, Nat.reduceAdd, Nat.reduceLeDiff, Nat.reduceMul, Nat.reduceLT, Nat.reduceBEq, Int.reduceEq, tf_C1_96]
  have hsome := (Own.solid _ _ _ m3').2.2
  have hdis : ∀ x ∈ bs, x ∉ cs := fun x hx hx' => by
    obtain ⟨u, e, _⟩ := hsome x hx
    have := n2 x hx'
    have h2 : x ≠ b2 := fun e => hbb2 (e ▸ hx)
    simp only [su_eq, h2, if_false] at this
    rw [e] at this; cases this
  have hcs : ∀ x ∈ cs, x ≠ b ∧ x ≠ b2 := fun x hx => ⟨fun e => hcb (e ▸ hx), fun e => hcb2 (e ▸ hx)⟩
  have hbs : ∀ x ∈ bs, x ≠ b ∧ x ≠ b2 := fun x hx => ⟨fun e => hbb (e ▸ hx), fun e => hbb2 (e ▸ hx)⟩
  refine ⟨[b, b2], bs ++ cs, List.nodup_append.2 ⟨m1, n1, fun x hx y hy e => hdis x hx (e ▸ hy)⟩, fun x hx => ?_, ?_, ?_, ?_⟩
  · rcases List.mem_append.1 hx with hx | hx
    · have := m2 x hx
      simpa [su_eq, hbs x hx] using this
    · have := n2 x hx
      simp only [su_eq, (hcs x hx).2, if_false] at this
      by_cases hxb : x ∈ bs
      · exact absurd hx (hdis x hxb)
      · rw [m4 x hxb] at this
        simpa [su_eq, hcs x hx] using this
  · simp [hb1, hn2, hbb, hbb2, hcb, hcb2]
  · rw [← clAv_mk]
    refine own_Cl.2 ⟨q, bs, r, cs, rfl, rfl, Own.keep _ _ _ (fun x hx => ?_) m3', Own.keep _ _ _ (fun x hx => ?_) n3⟩
    · simp only [su_eq, (hbs x hx).1, (hbs x hx).2, if_false]
      rw [n4 x (hdis x hx)]
      simp only [su_eq, (hbs x hx).2, if_false]
    · simp only [su_eq, (hcs x hx).1, (hcs x hx).2, if_false]
  · intro x hx hd
    simp only [List.mem_cons, List.not_mem_nil, or_false, not_or] at hd
    simp only [List.mem_append, not_or] at hx
    simp only [su_eq, hd.1, hd.2, if_false]
    rw [n4 x hx.2]
    simp only [su_eq, hd.2, if_false]
    rw [m4 x hx.1]
    simp only [su_eq, hd.1, hd.2, if_false]
theorem c_eqClauseS' (l : List Cl) (st : Store) : ACalls prog 44 [.slice (l.map clAv), .slice (l.map clAv)] st (fun r st' => r = .bool true ∧ st' = st) := by
  refine (c_eqClauseS l l st fun x _ y st => c_eqClause x y st).mono ?_
  rintro _ _ ⟨rfl, rfl⟩
  refine ⟨?_, rfl⟩
  have : ∀ l : List Cl, eqL clSame l l = true := by
    intro l
    induction l with
    | nil => rfl
    | cons x l ih => simp [eqL, clSame_refl, ih]
  rw [this]
abbrev szC (l : List Cl) : Nat := l.length + sumL clSz l
theorem c_szClauseS' (l : List Cl) (left : Int) (st : Store) (h0 : 0 ≤ left) (h1 : left ≤ 1048576) : ACalls prog 39 [.slice (l.map clAv), .int .i64 left] st (fun r st' => r = .int .i64 (szR left (szC l)) ∧ st' = st) :=
  c_szClauseS l left st h0 h1 fun x _ left st h0 h1 => c_szClause x left st h0 h1
theorem o_toClauseS' (l : List Cl) (st : Store) (hb : szC l ≤ 1048576) : ACalls prog 41 [.slice (l.map clAv)] st (Made st (.slice (l.map clAv))) :=
  o_toClauseS l st (by unfold szC at hb; omega) fun x hx st => o_toClause x st (by have := sumL_mem (f := clSz) hx; unfold szC at hb; omega)
theorem clMks_le (c : Cl) : clMks c ≤ 3 + 3 * clSz c := by
  obtain ⟨⟨k, n, s, ts⟩, b⟩ := c
  have h1 := Tm.mks_le (.mk k n s ts)
  have h2 := mks_szL b
  rw [Tm.mks_mk] at h1
  rw [clMks_mk]
  have hsl : szL b = b.length + sumL Tm.sz b := rfl
  have hcs : clSz (.mk k n s ts, b) = (Tm.mk k n s ts).sz + (b.length + sumL Tm.sz b) := rfl
  omega
theorem clMks_szC : ∀ l : List Cl, sumL clMks l ≤ 3 * szC l
  | [] => by simp [sumL]
  | x :: l => by
    have h1 := clMks_le x
    have h2 := clMks_szC l
    simp only [sumL, szC, List.length_cons] at h2 ⊢
    omega
end Go.AW


/- Clauses that are marked, and read again: what the laws' helpers do. -/
namespace Go.AW
open Go.Proofs.Try
set_option linter.unusedSimpArgs false
set_option maxRecDepth 100000

theorem tf_C2_45 : (type_of% tI_2) ∧ (type_of% zI_2) ∧ (type_of% Go.Proofs.Try.underlying2) ∧ (type_of% tI_3) ∧ (type_of% zI_3) ∧ (type_of% Go.Proofs.Try.underlying3) ∧ (type_of% tI_4) ∧ (type_of% zI_4) ∧ (type_of% Go.Proofs.Try.underlying4) ∧ (type_of% tI_5) ∧ (type_of% zI_5) ∧ (type_of% Go.Proofs.Try.underlying5) ∧ (type_of% tI_6) ∧ (type_of% zI_6) ∧ (type_of% Go.Proofs.Try.underlying6) ∧ (type_of% tI_7) ∧ (type_of% zI_7) ∧ (type_of% fI_7_0) ∧ (type_of% fI_7_1) ∧ (type_of% fI_7_2) ∧ (type_of% fI_7_3) ∧ (type_of% bI_7) ∧ (type_of% tI_8) ∧ (type_of% zI_8) ∧ (type_of% fI_8_0) ∧ (type_of% fI_8_1) ∧ (type_of% fI_8_2) ∧ (type_of% fI_8_3) ∧ (type_of% bI_8) ∧ (type_of% tI_9) ∧ (type_of% zI_9) ∧ (type_of% Go.Proofs.Try.underlying9) ∧ (type_of% tI_10) ∧ (type_of% zI_10) ∧ (type_of% Go.Proofs.Try.underlying10) ∧ (type_of% tI_11) ∧ (type_of% zI_11) ∧ (type_of% Go.Proofs.Try.underlying11) ∧ (type_of% tI_12) ∧ (type_of% zI_12) ∧ (type_of% Go.Proofs.Try.underlying12) ∧ (type_of% tI_19) ∧ (type_of% zI_19) ∧ (type_of% fI_19_0) ∧ (type_of% bI_19) ∧ (type_of% tI_27) ∧ (type_of% zI_27) ∧ (type_of% eI_27) ∧ (type_of% eB_27) ∧ (type_of% eZ_27) ∧ (type_of% Go.Proofs.Try.underlying27) ∧ (type_of% tI_31) ∧ (type_of% zI_31) ∧ (type_of% fI_31_0) ∧ (type_of% bI_31) ∧ (type_of% tI_41) ∧ (type_of% zI_41) ∧ (type_of% fI_41_0) ∧ (type_of% fI_41_1) ∧ (type_of% fI_41_2) ∧ (type_of% fI_41_3) ∧ (type_of% bI_41) ∧ (type_of% tI_44) ∧ (type_of% zI_44) ∧ (type_of% eI_44) ∧ (type_of% eB_44) ∧ (type_of% eZ_44) ∧ (type_of% Go.Proofs.Try.underlying44) ∧ (type_of% tI_53) ∧ (type_of% zI_53) ∧ (type_of% fI_53_0) ∧ (type_of% fI_53_1) ∧ (type_of% bI_53) ∧ (type_of% tI_64) ∧ (type_of% zI_64) ∧ (type_of% fI_64_0) ∧ (type_of% fI_64_1) ∧ (type_of% bI_64) ∧ (type_of% tI_73) ∧ (type_of% zI_73) ∧ (type_of% eI_73) ∧ (type_of% eB_73) ∧ (type_of% eZ_73) ∧ (type_of% Go.Proofs.Try.underlying73) ∧ (type_of% tI_136) ∧ (type_of% zI_136) ∧ (type_of% fI_136_0) ∧ (type_of% fI_136_1) ∧ (type_of% bI_136) := ⟨tI_2, zI_2, Go.Proofs.Try.underlying2, tI_3, zI_3, Go.Proofs.Try.underlying3, tI_4, zI_4, Go.Proofs.Try.underlying4, tI_5, zI_5, Go.Proofs.Try.underlying5, tI_6, zI_6, Go.Proofs.Try.underlying6, tI_7, zI_7, fI_7_0, fI_7_1, fI_7_2, fI_7_3, bI_7, tI_8, zI_8, fI_8_0, fI_8_1, fI_8_2, fI_8_3, bI_8, tI_9, zI_9, Go.Proofs.Try.underlying9, tI_10, zI_10, Go.Proofs.Try.underlying10, tI_11, zI_11, Go.Proofs.Try.underlying11, tI_12, zI_12, Go.Proofs.Try.underlying12, tI_19, zI_19, fI_19_0, bI_19, tI_27, zI_27, eI_27, eB_27, eZ_27, Go.Proofs.Try.underlying27, tI_31, zI_31, fI_31_0, bI_31, tI_41, zI_41, fI_41_0, fI_41_1, fI_41_2, fI_41_3, bI_41, tI_44, zI_44, eI_44, eB_44, eZ_44, Go.Proofs.Try.underlying44, tI_53, zI_53, fI_53_0, fI_53_1, bI_53, tI_64, zI_64, fI_64_0, fI_64_1, bI_64, tI_73, zI_73, eI_73, eB_73, eZ_73, Go.Proofs.Try.underlying73, tI_136, zI_136, fI_136_0, fI_136_1, bI_136⟩
theorem c_markClauseS (l : List Cl) (j : Int) (o : AV) (bs : List Nat) (st : Store) (hO : Own st (.slice (l.map clAv)) o bs) (hnd : bs.Nodup) (hj0 : 0 ≤ j) (hj1 : j + sumL clMks l ≤ 1099511627776) :
    ACalls prog 45 [o, .int .i64 j] st (Marked st (.slice ((markL clMark clMks l j).map clAv)) o bs (j + sumL clMks l)) := by
  obtain ⟨hlen, haL⟩ := hO.len
  rw [List.length_map] at hlen
  have haL := haL prog 73 _ underlying73
  rw [List.length_map] at haL
  refine acalls_fit [1000000] func45 ntmps45 rfl rfl (by kernel_rfl) (by decide +kernel) (by show 2 ≤ _; decide +kernel) ?_
  simp only [fitsL]
  intro ⟨hf, _⟩
  have hl := hlen hf
  clear hf hlen
  simp -implicitDefEqProofs only [evb0, evb1, evb2, evb3, evb4, evb5, evb6, evb7, evb8, evb9, ↓evZ2, ↓evZ3, ↓Int.cast_ofNat_Int, implies_true, ne_eq, or_false, false_or, or_self, gt_iff_lt, isMut, aFn, List.contains, List.elem, aBox, aField, aLoad, sub, aNil, aPick, aExt, aFld, gd, noJunk, plainOp, aBuildSlice, aBuild, aFill, aParts, seqParts, fitAll, List.range', ↓reduceIte, reduceCtorEq, Nat.reduceEqDiff, Nat.reduceAdd, Nat.reduceLeDiff, Nat.reduceMul, Nat.reduceLT, Nat.reduceBEq, Int.reduceEq, tf_C2_45]
  refine arun_each (σ := List Cl × Int × Store) [1000000] [0, 4] l
    (fun i p => p.1.length = i ∧ p.1 ++ markL clMark clMks (l.drop i) p.2.1 = markL clMark clMks l j ∧ 0 ≤ p.2.1 ∧ p.2.1 + sumL clMks (l.drop i) = j + sumL clMks l ∧ Own p.2.2 (.slice ((p.1 ++ l.drop i).map clAv)) o bs ∧ ∀ q, q ∉ bs → p.2.2 q = st q)
    (fun i p => [(1, .int .i64 p.2.1), (5, .int .i64 i)]) (fun _ p => p.2.2) (by decide +kernel)
    ⟨([], j, st), ⟨rfl, rfl, hj0, rfl, hO, fun _ _ => rfl⟩, LessL.mk (by simp -implicitDefEqProofs only [evb0, evb1, evb2, evb3, evb4, evb5, evb6, evb7, evb8, evb9, ↓evZ2, ↓evZ3, ↓Int.cast_ofNat_Int, implies_true, ne_eq, or_false, false_or, or_self, gt_iff_lt, isMut, aFn, List.contains, List.elem, aBox, aField, aLoad, sub, aNil, aPick, aExt, aFld, gd, noJunk, plainOp, aBuildSlice, aBuild, aFill, aParts, seqParts, fitAll, List.range', ↓reduceIte, reduceCtorEq, Nat.reduceEqDiff, Nat.reduceAdd, Nat.reduceLeDiff, Nat.reduceMul, Nat.reduceLT, Nat.reduceBEq, Int.reduceEq, tf_C2_45])⟩ (fun i x p hx hlt hlt' hdr hinv => ?_) (fun p hge hinv => ?_)
  case refine_2 =>
    obtain ⟨done, k, s⟩ := p
    obtain ⟨i1, i2, i3, i4, i5, i6⟩ := hinv
    simp only at i1 i2 i3 i4 i5 i6
    simp -implicitDefEqProofs only [haL, hge, evb0, evb1, evb2, evb3, evb4, evb5, evb6, evb7, evb8, evb9, ↓evZ2, ↓evZ3, ↓Int.cast_ofNat_Int, implies_true, ne_eq, or_false, false_or, or_self, gt_iff_lt, isMut, aFn, List.contains, List.elem, aBox, aField, aLoad, sub, aNil, aPick, aExt, aFld, gd, noJunk, plainOp, aBuildSlice, aBuild, aFill, aParts, seqParts, fitAll, List.range', ↓reduceIte, reduceCtorEq, Nat.reduceEqDiff, Nat.reduceAdd, Nat.reduceLeDiff, Nat.reduceMul, Nat.reduceLT, Nat.reduceBEq, Int.reduceEq, tf_C2_45]
    simp only [List.drop_length, markL, List.append_nil, sumL] at i2 i4 i5
    exact ⟨by rw [← i4]; simp, by rw [← i2]; exact i5, i6⟩
  obtain ⟨done, k, s⟩ := p
  obtain ⟨i1, i2, i3, i4, i5, i6⟩ := hinv
  simp only at i1 i2 i3 i4 i5 i6
  rw [hdr] at i2 i4 i5
  obtain ⟨⟨xk, xn, xs, xts⟩, xb⟩ := x
  simp only [sumL, clMks_mk] at i4
  have hget := marked_get (av := clAv) (done := done) (x := (.mk xk xn xs xts, xb)) (rest := l.drop (i + 1))
  obtain ⟨b, bs', w, A, oe, bo, B, rfl, hbs, hsb, hA, hoe, hbo, hbn, hsub, hw, hi, hfoc⟩ := i5.focus hnd hget
  rw [clAv_width] at hw
  subst hw
  rw [i1] at hA
  obtain ⟨q, b1, q', b2, rfl, rfl, hq, hq'⟩ := own_Cl.1 hoe
  rw [List.nodup_append] at hbo
  obtain ⟨hb1n, hb2n, hdis⟩ := hbo
  simp only [List.mem_append, not_or] at hbn
  have hlen2 : ((done ++ ((Tm.mk xk xn xs xts, xb) : Cl) :: l.drop (i + 1)).map clAv).length = l.length := by
    rw [List.length_map, List.length_append, List.length_cons, List.length_drop, i1]; omega
  rw [hlen2] at haL hfoc ⊢
  have hat := held_at (P := prog) (b := b) (len := l.length) (w := 5) (i := i) eI_73 hlt
  have hw1 := wrap64 (n := k + 1) (by omega) (by omega)
  have hw2 := wrap64 (n := k + 1 + 1) (by omega) (by omega)
  have hw3 := wrap64 (n := k + 1 + 1 + 1) (by omega) (by omega)
  have hw4 := wrap64 (n := (i : Int) + 1) (by omega) (by omega)
  obtain ⟨e1, e2, e3, e4, e5, e6⟩ := midE (B := B) hA
  simp -implicitDefEqProofs only [haL, hlt', hat, hsb, hw1, hw2, hw3, e1, e2, e3, e4, e5, e6, Nat.add_zero, List.set_cons_zero, List.set_cons_succ, Store.upd_upd, evb0, evb1, evb2, evb3, evb4, evb5, evb6, evb7, evb8, evb9, ↓evZ2, ↓evZ3, ↓Int.cast_ofNat_Int, implies_true, ne_eq, or_false, false_or, or_self, gt_iff_lt, isMut, aFn, List.contains, List.elem, aBox, aField, aLoad, sub, aNil, aPick, aExt, aFld, gd, noJunk, plainOp, aBuildSlice, aBuild, aFill, aParts, seqParts, fitAll, List.range', ↓reduceIte, reduceCtorEq, Nat.reduceEqDiff, Nat.reduceAdd, Nat.reduceLeDiff, Nat.reduceMul, Nat.reduceLT, Nat.reduceBEq, Int.reduceEq, tf_C2_45]
  refine (c_markText (k + 1 + 1) _ (by omega)).to ?_
  simp -implicitDefEqProofs only [hat, e1, e2, e3, e4, e5, e6, Nat.add_zero, List.set_cons_zero, List.set_cons_succ, Store.upd_upd, hw1, hw2, hw3, evb0, evb1, evb2, evb3, evb4, evb5, evb6, evb7, evb8, evb9, ↓evZ2, ↓evZ3, ↓Int.cast_ofNat_Int, implies_true, ne_eq, or_false, false_or, or_self, gt_iff_lt, isMut, aFn, List.contains, List.elem, aBox, aField, aLoad, sub, aNil, aPick, aExt, aFld, gd, noJunk, plainOp, aBuildSlice, aBuild, aFill, aParts, seqParts, fitAll, List.range', ↓reduceIte, reduceCtorEq, Nat.reduceEqDiff, Nat.reduceAdd, Nat.reduceLeDiff, Nat.reduceMul, Nat.reduceLT, Nat.reduceBEq, Int.reduceEq, tf_C2_45]
  have hqs : ∀ (o : AO), Own (s.upd b o) (.slice (xts.map Tm.av)) q b1 := fun o => Own.keep _ _ _ (fun x hx => Store.upd_ne _ _ (fun e => hbn.1 (e ▸ hx))) hq
  have hqa : q.isAgg = false := (Own.shape hq).1
  have hqa' : q'.isAgg = false := (Own.shape hq').1
  simp -implicitDefEqProofs only [hqa, evb0, evb1, evb2, evb3, evb4, evb5, evb6, evb7, evb8, evb9, ↓evZ2, ↓evZ3, ↓Int.cast_ofNat_Int, implies_true, ne_eq, or_false, false_or, or_self, gt_iff_lt, isMut, aFn, List.contains, List.elem, aBox, aField, aLoad, sub, aNil, aPick, aExt, aFld, gd, noJunk, plainOp, aBuildSlice, aBuild, aFill, aParts, seqParts, fitAll, List.range', ↓reduceIte, reduceCtorEq, Nat.reduceEqDiff, Nat.reduceAdd, Nat.reduceLeDiff, Nat.reduceMul, Nat.reduceLT, Nat.reduceBEq, Int.reduceEq, tf_C2_45]
  refine (c_markTermS xts (k + 1 + 1 + 1) q b1 _ (hqs _) hb1n (by omega) (by omega)).mono ?_
  rintro _ s2 ⟨rfl, hq2, hk2⟩
  have f1 := hk2 b hbn.1
  rw [Store.upd_same] at f1
  simp -implicitDefEqProofs only [hat, f1, e1, e2, e3, e4, e5, e6, Nat.add_zero, List.set_cons_zero, List.set_cons_succ, Store.upd_upd, hqa', evb0, evb1, evb2, evb3, evb4, evb5, evb6, evb7, evb8, evb9, ↓evZ2, ↓evZ3, ↓Int.cast_ofNat_Int, implies_true, ne_eq, or_false, false_or, or_self, gt_iff_lt, isMut, aFn, List.contains, List.elem, aBox, aField, aLoad, sub, aNil, aPick, aExt, aFld, gd, noJunk, plainOp, aBuildSlice, aBuild, aFill, aParts, seqParts, fitAll, List.range', ↓reduceIte, reduceCtorEq, Nat.reduceEqDiff, Nat.reduceAdd, Nat.reduceLeDiff, Nat.reduceMul, Nat.reduceLT, Nat.reduceBEq, Int.reduceEq, tf_C2_45]
  have hqs' : Own s2 (.slice (xb.map Tm.av)) q' b2 := Own.keep _ _ _ (fun x hx => by
    have hxb : x ≠ b := fun e => hbn.2 (e ▸ hx)
    rw [hk2 x (fun h => hdis x h x hx rfl), Store.upd_ne _ _ hxb]) hq'
  refine (c_markTermS xb _ q' b2 _ hqs' hb2n (by omega) (by omega)).mono ?_
  rintro _ s3 ⟨rfl, hq3, hk3⟩
  have hm : k + ((3 + sumL Tm.mks xts + sumL Tm.mks xb : Nat) : Int) = k + 1 + 1 + 1 + (sumL Tm.mks xts : Int) + (sumL Tm.mks xb : Int) := by omega
  simp -implicitDefEqProofs only [hw4, evb0, evb1, evb2, evb3, evb4, evb5, evb6, evb7, evb8, evb9, ↓evZ2, ↓evZ3, ↓Int.cast_ofNat_Int, implies_true, ne_eq, or_false, false_or, or_self, gt_iff_lt, isMut, aFn, List.contains, List.elem, aBox, aField, aLoad, sub, aNil, aPick, aExt, aFld, gd, noJunk, plainOp, aBuildSlice, aBuild, aFill, aParts, seqParts, fitAll, List.range', ↓reduceIte, reduceCtorEq, Nat.reduceEqDiff, Nat.reduceAdd, Nat.reduceLeDiff, Nat.reduceMul, Nat.reduceLT, Nat.reduceBEq, Int.reduceEq, tf_C2_45]
  refine ⟨(done ++ [clMark (.mk xk xn xs xts, xb) k], k + 1 + 1 + 1 + (sumL Tm.mks xts : Int) + (sumL Tm.mks xb : Int), s3), ⟨?_, ?_, ?_, ?_, ?_, ?_⟩, LessL.mk (by simp -implicitDefEqProofs only [evb0, evb1, evb2, evb3, evb4, evb5, evb6, evb7, evb8, evb9, ↓evZ2, ↓evZ3, ↓Int.cast_ofNat_Int, implies_true, ne_eq, or_false, false_or, or_self, gt_iff_lt, isMut, aFn, List.contains, List.elem, aBox, aField, aLoad, sub, aNil, aPick, aExt, aFld, gd, noJunk, plainOp, aBuildSlice, aBuild, aFill, aParts, seqParts, fitAll, List.range', ↓reduceIte, reduceCtorEq, Nat.reduceEqDiff, Nat.reduceAdd, Nat.reduceLeDiff, Nat.reduceMul, Nat.reduceLT, Nat.reduceBEq, Int.reduceEq, tf_C2_45])⟩
  · simp [i1]
  · simp only [markL, clMks_mk] at i2
    rw [hm] at i2
    rw [← i2]
    simp
  · simp only; omega
  · simp only; omega
  · have := hfoc s3 (clAv (clMark (.mk xk xn xs xts, xb) k)) (.agg [.int .i64 k, .int .i64 (k + 1), .str (mt (k + 1 + 1)), q, q']) (clAv_width _)
      (fun x hx hxb hxo => by
        simp only [List.mem_append, not_or] at hxo
        rw [hk3 x hxo.2, hk2 x hxo.1, Store.upd_ne _ _ hxb])
      (by rw [hk3 b hbn.2, f1]; rfl)
      (by
        unfold clMark
        exact own_Cl.2 ⟨q, b1, q', b2, rfl, rfl, Own.keep _ _ _ (fun x hx => hk3 x (fun h => hdis x hx x h rfl)) hq2, hq3⟩)
    rw [marked_set] at this
    exact this
  · intro x hx
    have hxb : x ≠ b := fun e => hx (by rw [hbs]; simp [e])
    have hx1 : x ∉ b1 := fun e => hx (hsub x (by simp [e]))
    have hx2 : x ∉ b2 := fun e => hx (hsub x (by simp [e]))
    show s3 x = st x
    rw [hk3 x hx2, hk2 x hx1, Store.upd_ne _ _ hxb, i6 x hx]

end Go.AW


/- Sessions, told apart and marked; the law: OpenSession. -/
namespace Go.AW
open Go.Proofs.Try
set_option linter.unusedSimpArgs false
set_option maxRecDepth 100000

theorem tf_C7_43 : (type_of% tI_2) ∧ (type_of% zI_2) ∧ (type_of% Go.Proofs.Try.underlying2) ∧ (type_of% tI_3) ∧ (type_of% zI_3) ∧ (type_of% Go.Proofs.Try.underlying3) ∧ (type_of% tI_4) ∧ (type_of% zI_4) ∧ (type_of% Go.Proofs.Try.underlying4) ∧ (type_of% tI_5) ∧ (type_of% zI_5) ∧ (type_of% Go.Proofs.Try.underlying5) ∧ (type_of% tI_6) ∧ (type_of% zI_6) ∧ (type_of% Go.Proofs.Try.underlying6) ∧ (type_of% tI_7) ∧ (type_of% zI_7) ∧ (type_of% fI_7_0) ∧ (type_of% fI_7_1) ∧ (type_of% fI_7_2) ∧ (type_of% fI_7_3) ∧ (type_of% bI_7) ∧ (type_of% tI_8) ∧ (type_of% zI_8) ∧ (type_of% fI_8_0) ∧ (type_of% fI_8_1) ∧ (type_of% fI_8_2) ∧ (type_of% fI_8_3) ∧ (type_of% bI_8) ∧ (type_of% tI_9) ∧ (type_of% zI_9) ∧ (type_of% Go.Proofs.Try.underlying9) ∧ (type_of% tI_10) ∧ (type_of% zI_10) ∧ (type_of% Go.Proofs.Try.underlying10) ∧ (type_of% tI_11) ∧ (type_of% zI_11) ∧ (type_of% Go.Proofs.Try.underlying11) ∧ (type_of% tI_12) ∧ (type_of% zI_12) ∧ (type_of% Go.Proofs.Try.underlying12) ∧ (type_of% tI_13) ∧ (type_of% zI_13) ∧ (type_of% fI_13_0) ∧ (type_of% fI_13_1) ∧ (type_of% bI_13) ∧ (type_of% tI_14) ∧ (type_of% zI_14) ∧ (type_of% fI_14_0) ∧ (type_of% fI_14_1) ∧ (type_of% bI_14) ∧ (type_of% tI_15) ∧ (type_of% zI_15) ∧ (type_of% tI_17) ∧ (type_of% zI_17) ∧ (type_of% tI_27) ∧ (type_of% zI_27) ∧ (type_of% eI_27) ∧ (type_of% eB_27) ∧ (type_of% eZ_27) ∧ (type_of% Go.Proofs.Try.underlying27) ∧ (type_of% tI_44) ∧ (type_of% zI_44) ∧ (type_of% eI_44) ∧ (type_of% eB_44) ∧ (type_of% eZ_44) ∧ (type_of% Go.Proofs.Try.underlying44) ∧ (type_of% tI_73) ∧ (type_of% zI_73) ∧ (type_of% eI_73) ∧ (type_of% eB_73) ∧ (type_of% eZ_73) ∧ (type_of% Go.Proofs.Try.underlying73) ∧ (type_of% tI_75) ∧ (type_of% zI_75) ∧ (type_of% fI_75_0) ∧ (type_of% fI_75_1) ∧ (type_of% fI_75_2) ∧ (type_of% fI_75_3) ∧ (type_of% fI_75_4) ∧ (type_of% fI_75_5) ∧ (type_of% bI_75) := ⟨tI_2, zI_2, Go.Proofs.Try.underlying2, tI_3, zI_3, Go.Proofs.Try.underlying3, tI_4, zI_4, Go.Proofs.Try.underlying4, tI_5, zI_5, Go.Proofs.Try.underlying5, tI_6, zI_6, Go.Proofs.Try.underlying6, tI_7, zI_7, fI_7_0, fI_7_1, fI_7_2, fI_7_3, bI_7, tI_8, zI_8, fI_8_0, fI_8_1, fI_8_2, fI_8_3, bI_8, tI_9, zI_9, Go.Proofs.Try.underlying9, tI_10, zI_10, Go.Proofs.Try.underlying10, tI_11, zI_11, Go.Proofs.Try.underlying11, tI_12, zI_12, Go.Proofs.Try.underlying12, tI_13, zI_13, fI_13_0, fI_13_1, bI_13, tI_14, zI_14, fI_14_0, fI_14_1, bI_14, tI_15, zI_15, tI_17, zI_17, tI_27, zI_27, eI_27, eB_27, eZ_27, Go.Proofs.Try.underlying27, tI_44, zI_44, eI_44, eB_44, eZ_44, Go.Proofs.Try.underlying44, tI_73, zI_73, eI_73, eB_73, eZ_73, Go.Proofs.Try.underlying73, tI_75, zI_75, fI_75_0, fI_75_1, fI_75_2, fI_75_3, fI_75_4, fI_75_5, bI_75⟩
theorem c_eqSession (s : Ss) (st : Store) : ACalls prog 43 [ssAv s, ssAv s] st (fun r st' => r = .bool true ∧ st' = st) := by
  obtain ⟨p, q, i0, i1, i2, i3⟩ := s
  simp only [ssAv]
  refine acalls_fit [1000000] func43 ntmps43 rfl rfl (by kernel_rfl) (by decide +kernel) (by show 2 ≤ _; decide +kernel) ?_
  intro _
  simp -implicitDefEqProofs only [evb0, evb1, evb2, evb3, evb4, evb5, evb6, evb7, evb8, evb9, ↓evZ2, ↓evZ3, ↓Int.cast_ofNat_Int, implies_true, ne_eq, or_false, false_or, or_self, gt_iff_lt, isMut, aFn, List.contains, List.elem, aBox, aField, aLoad, sub, aNil, aPick, aExt, aFld, gd, noJunk, plainOp, aBuildSlice, aBuild, aFill, aParts, seqParts, fitAll, List.range', ↓reduceIte, reduceCtorEq, Nat.reduceEqDiff, Nat.reduceAdd, Nat.reduceLeDiff, Nat.reduceMul, Nat.reduceLT, Nat.reduceBEq, Int.reduceEq, tf_C7_43]
  refine (c_eqClauseS' p _).to ?_
  simp -implicitDefEqProofs only [evb0, evb1, evb2, evb3, evb4, evb5, evb6, evb7, evb8, evb9, ↓evZ2, ↓evZ3, ↓Int.cast_ofNat_Int, implies_true, ne_eq, or_false, false_or, or_self, gt_iff_lt, isMut, aFn, List.contains, List.elem, aBox, aField, aLoad, sub, aNil, aPick, aExt, aFld, gd, noJunk, plainOp, aBuildSlice, aBuild, aFill, aParts, seqParts, fitAll, List.range', ↓reduceIte, reduceCtorEq, Nat.reduceEqDiff, Nat.reduceAdd, Nat.reduceLeDiff, Nat.reduceMul, Nat.reduceLT, Nat.reduceBEq, Int.reduceEq, tf_C7_43]
  refine (c_eqTermS' q _).to ?_
  simp -implicitDefEqProofs only [beq_self_eq_true, bne_self_eq_false, evb0, evb1, evb2, evb3, evb4, evb5, evb6, evb7, evb8, evb9, ↓evZ2, ↓evZ3, ↓Int.cast_ofNat_Int, implies_true, ne_eq, or_false, false_or, or_self, gt_iff_lt, isMut, aFn, List.contains, List.elem, aBox, aField, aLoad, sub, aNil, aPick, aExt, aFld, gd, noJunk, plainOp, aBuildSlice, aBuild, aFill, aParts, seqParts, fitAll, List.range', ↓reduceIte, reduceCtorEq, Nat.reduceEqDiff, Nat.reduceAdd, Nat.reduceLeDiff, Nat.reduceMul, Nat.reduceLT, Nat.reduceBEq, Int.reduceEq, tf_C7_43]

def ssMks (s : Ss) : Nat := sumL clMks s.p + sumL Tm.mks s.q
def ssMark (s : Ss) (j : Int) : Ss := { s with p := markL clMark clMks s.p j, q := markL Tm.mark Tm.mks s.q (j + sumL clMks s.p) }

end Go.AW


/- Draws: bytes, numbers that are picked. -/
namespace Go.AW
open Go.Proofs.Try
set_option linter.unusedSimpArgs false
set_option maxRecDepth 100000

abbrev Bt := Fin 256
def byteAv (b : Bt) : AV := .int .u8 (b.val : Int)
theorem byteAv_width (b : Bt) : (byteAv b).width = 1 := rfl
/-- What draws: bytes, and how many were drawn. -/
def RdAt (st : Store) (c : Nat) (bs : List Bt) (p : Nat) : Prop := st c = some (.cells [.slice (bs.map byteAv), .int .i64 (p : Int)])
def rdC (bs : List Bt) (p : Nat) : AO := .cells [.slice (bs.map byteAv), .int .i64 (p : Int)]

end Go.AW

/- Frames, clients, servers; what is held in several pieces. -/
namespace Go.AW
set_option linter.unusedSimpArgs false
set_option linter.unusedVariables false

/-! ### Pieces -/
/-- A cell that holds nothing. -/
def isSc : AV → Bool
  | .int _ _ | .bool _ | .str _ => true
  | _ => false
theorem own_sc {st : Store} {a o : AV} {bs : List Nat} (h : isSc a = true) : Own st a o bs ↔ o = a ∧ bs = [] := by
  cases a <;> simp [isSc] at h <;> simp [Own]
theorem ownL_sc {st : Store} {a : AV} {es os : List AV} {bs : List Nat} (h : isSc a = true) : OwnL st (a :: es) os bs ↔ ∃ os', os = a :: os' ∧ OwnL st es os' bs := by
  simp only [OwnL]
  constructor
  · rintro ⟨o, os', b1, b2, rfl, rfl, x1, x2⟩
    obtain ⟨rfl, rfl⟩ := (own_sc h).1 x1
    exact ⟨os', rfl, x2⟩
  · rintro ⟨os', rfl, x⟩
    exact ⟨a, os', [], bs, rfl, rfl, (own_sc h).2 ⟨rfl, rfl⟩, x⟩
/-- The pieces among the cells that hold nothing. -/
def weave : List AV → List AV → List AV
  | [], _ => []
  | a :: es, qs => if isSc a then a :: weave es qs else match qs with
    | q :: qs => q :: weave es qs
    | [] => []
theorem ownL_weave {st : Store} : ∀ {es os : List AV} {bs : List Nat}, OwnL st es os bs ↔ ∃ qs, os = weave es qs ∧ OwnL st (es.filter fun a => !isSc a) qs bs
  | [], os, bs => by
    simp only [OwnL, weave, List.filter_nil]
    constructor
    · rintro ⟨rfl, rfl⟩; exact ⟨[], rfl, rfl, rfl⟩
    · rintro ⟨qs, rfl, rfl, rfl⟩; exact ⟨rfl, rfl⟩
  | a :: es, os, bs => by
    cases h : isSc a with
    | true =>
      rw [ownL_sc h]
      simp only [weave, h, List.filter_cons, Bool.not_true, Bool.false_eq_true, if_false, if_true]
      constructor
      · rintro ⟨os', rfl, x⟩
        obtain ⟨qs, rfl, y⟩ := ownL_weave.1 x
        exact ⟨qs, rfl, y⟩
      · rintro ⟨qs, rfl, y⟩
        exact ⟨_, rfl, ownL_weave.2 ⟨qs, rfl, y⟩⟩
    | false =>
      simp only [weave, h, List.filter_cons, Bool.not_false, Bool.false_eq_true, if_false, if_true, OwnL]
      constructor
      · rintro ⟨o, os', b1, b2, rfl, rfl, x1, x2⟩
        obtain ⟨qs, rfl, y⟩ := ownL_weave.1 x2
        exact ⟨o :: qs, rfl, o, qs, b1, b2, rfl, rfl, x1, y⟩
      · rintro ⟨qs, rfl, o, os', b1, b2, rfl, rfl, x1, y⟩
        exact ⟨o, _, b1, b2, rfl, rfl, x1, ownL_weave.2 ⟨os', rfl, y⟩⟩
theorem own_pieces {st : Store} {cs : List AV} {o : AV} {bs : List Nat} : Own st (.agg cs) o bs ↔ ∃ qs, o = .agg (weave cs qs) ∧ OwnL st (cs.filter fun a => !isSc a) qs bs := by
  simp only [Own]
  constructor
  · rintro ⟨os, rfl, x⟩
    obtain ⟨qs, rfl, y⟩ := ownL_weave.1 x
    exact ⟨qs, rfl, y⟩
  · rintro ⟨qs, rfl, y⟩
    exact ⟨_, rfl, ownL_weave.2 ⟨qs, rfl, y⟩⟩
def isSl : AV → Bool
  | .slice _ => true
  | _ => false
/-- What a held slice looks like. -/
def One (q : AV) : Prop := q.cells = [q] ∧ q.storable = true ∧ q.isAgg = false ∧ q.width = 1 ∧ q.isJunk = false
theorem OwnL.ones {st : Store} : ∀ {es os : List AV} {bs : List Nat}, OwnL st es os bs → es.all isSl = true → ∀ q ∈ os, One q
  | [], os, bs, x, _ => by simp only [OwnL] at x; rw [x.1]; simp
  | a :: es, os, bs, x, h => by
    simp only [OwnL] at x
    obtain ⟨o, os', b1, b2, rfl, rfl, x1, x2⟩ := x
    simp only [List.all_cons, Bool.and_eq_true] at h
    intro q hq
    rcases List.mem_cons.1 hq with rfl | hq
    · cases a <;> simp [isSl] at h
      exact Own.one' x1
    · exact OwnL.ones x2 h.2 q hq

/-- One piece is written. -/
theorem OwnL.piece {st : Store} {es os : List AV} {bs : List Nat} (x : OwnL st es os bs) (nd : bs.Nodup) (i : Nat) {a o : AV} (ha : es[i]? = some a) (ho : os[i]? = some o) :
    ∃ bo, Own st a o bo ∧ bo.Nodup ∧ (∀ b ∈ bo, b ∈ bs) ∧ ∀ (st' : Store) (a' : AV), (∀ b, b ∉ bo → st' b = st b) → Own st' a' o bo → OwnL st' (es.set i a') os bs := by
  obtain ⟨od, o2, orr, bo, rfl, hl, y1, y2, y3, y4⟩ := x.focus nd i a ha
  have : o2 = o := by
    subst hl
    simpa using ho
  subst this
  exact ⟨bo, y1, y2, y3, fun st' a' hk y => y4 st' a' o2 (fun b _ hn => hk b hn) y⟩

/-- Pieces that are made one behind the other, beside blocks that will be left. -/
structure Coll (st : Store) (ds : List Nat) (es os : List AV) (bs : List Nat) (s : Store) : Prop where
  nd : bs.Nodup
  fresh : ∀ b ∈ bs, st b = none
  apart : ∀ d ∈ ds, st d = none ∧ d ∉ bs ∧ s d ≠ none
  own : OwnL s es os bs
  keep : ∀ x, x ∉ bs → x ∉ ds → s x = st x
theorem Coll.start {st : Store} {ds : List Nat} {s : Store} (h1 : ∀ d ∈ ds, st d = none ∧ s d ≠ none) (h2 : ∀ x, x ∉ ds → s x = st x) : Coll st ds [] [] [] s :=
  ⟨List.nodup_nil, by simp, fun d hd => ⟨(h1 d hd).1, by simp, (h1 d hd).2⟩, ⟨rfl, rfl⟩, fun x _ h => h2 x h⟩
theorem Coll.upd {st : Store} {ds : List Nat} {es os : List AV} {bs : List Nat} {s : Store} (c : Coll st ds es os bs s) {d : Nat} (hd : d ∈ ds) (o : AO) : Coll st ds es os bs (s.upd d o) := by
  refine ⟨c.nd, c.fresh, fun e he => ⟨(c.apart e he).1, (c.apart e he).2.1, ?_⟩, OwnL.keep _ _ _ (fun b hb => Store.upd_ne _ _ (fun e => (c.apart d hd).2.1 (e ▸ hb))) c.own, fun x h1 h2 => ?_⟩
  · by_cases h : e = d
    · subst h; rw [Store.upd_same]; simp
    · rw [Store.upd_ne _ _ h]; exact (c.apart e he).2.2
  · have hx : x ≠ d := by rintro rfl; exact h2 hd
    rw [Store.upd_ne _ _ hx]; exact c.keep x h1 h2
theorem Coll.made {st : Store} {ds : List Nat} {es os : List AV} {bs : List Nat} {s s' : Store} {a r : AV} (c : Coll st ds es os bs s) (m : Made s a r s') : (∀ d ∈ ds, s' d = s d) ∧ ∃ bs', Coll st ds (es ++ [a]) (os ++ [r]) bs' s' := by
  obtain ⟨b2, m1, m2, m3, m4⟩ := m
  have hb : ∀ b ∈ bs, b ∉ b2 := fun b hb hb' => by
    obtain ⟨cs, e, _⟩ := (OwnL.solid _ _ _ c.own).2 b hb
    rw [m2 b hb'] at e; cases e
  have hd : ∀ d ∈ ds, d ∉ b2 := fun d hd hd' => (c.apart d hd).2.2 (m2 d hd')
  have hf : ∀ b ∈ b2, st b = none := fun b h2 => by
    have h1 : b ∉ bs := fun h => hb b h h2
    have h3 : b ∉ ds := fun h => hd b h h2
    rw [← c.keep b h1 h3]; exact m2 b h2
  refine ⟨fun d h => m4 d (hd d h), bs ++ b2, List.nodup_append.2 ⟨c.nd, m1, fun x hx y hy e => hb x hx (e ▸ hy)⟩, fun b h => ?_, fun d h => ⟨(c.apart d h).1, ?_, ?_⟩, ?_, fun x h1 h2 => ?_⟩
  · rcases List.mem_append.1 h with h | h
    · exact c.fresh b h
    · exact hf b h
  · simp only [List.mem_append, not_or]; exact ⟨(c.apart d h).2.1, hd d h⟩
  · rw [m4 d (hd d h)]; exact (c.apart d h).2.2
  · exact OwnL.snoc c.own (fun b h => m4 b (hb b h)) m3
  · simp only [List.mem_append, not_or] at h1
    rw [m4 x h1.2, c.keep x h1.1 h2]
theorem OwnL.append {st : Store} {a2 o2 : List AV} {b2 : List Nat} (y : OwnL st a2 o2 b2) : ∀ {a1 o1 : List AV} {b1 : List Nat}, OwnL st a1 o1 b1 → OwnL st (a1 ++ a2) (o1 ++ o2) (b1 ++ b2)
  | [], o1, b1, x => by
    simp only [OwnL] at x
    obtain ⟨rfl, rfl⟩ := x
    exact y
  | a :: a1, o1, b1, x => by
    simp only [OwnL] at x
    obtain ⟨o, os', c1, c2, rfl, rfl, x1, x2⟩ := x
    simp only [List.cons_append, OwnL]
    exact ⟨o, os' ++ o2, c1, c2 ++ b2, rfl, by simp, x1, OwnL.append y x2⟩
theorem Coll.madeL {st : Store} {ds : List Nat} {es os : List AV} {bs : List Nat} {s s' : Store} {a2 o2 : List AV} {b2 : List Nat} (c : Coll st ds es os bs s) (m1 : b2.Nodup) (m2 : ∀ b ∈ b2, s b = none) (m3 : OwnL s' a2 o2 b2) (m4 : ∀ b, b ∉ b2 → s' b = s b) :
    (∀ d ∈ ds, s' d = s d) ∧ Coll st ds (es ++ a2) (os ++ o2) (bs ++ b2) s' := by
  have hb : ∀ b ∈ bs, b ∉ b2 := fun b hb hb' => by
    obtain ⟨cs, e, _⟩ := (OwnL.solid _ _ _ c.own).2 b hb
    rw [m2 b hb'] at e; cases e
  have hd : ∀ d ∈ ds, d ∉ b2 := fun d hd hd' => (c.apart d hd).2.2 (m2 d hd')
  have hf : ∀ b ∈ b2, st b = none := fun b h2 => by
    have h1 : b ∉ bs := fun h => hb b h h2
    have h3 : b ∉ ds := fun h => hd b h h2
    rw [← c.keep b h1 h3]; exact m2 b h2
  refine ⟨fun d h => m4 d (hd d h), List.nodup_append.2 ⟨c.nd, m1, fun x hx y hy e => hb x hx (e ▸ hy)⟩, fun b h => ?_, fun d h => ⟨(c.apart d h).1, ?_, ?_⟩, ?_, fun x h1 h2 => ?_⟩
  · rcases List.mem_append.1 h with h | h
    · exact c.fresh b h
    · exact hf b h
  · simp only [List.mem_append, not_or]; exact ⟨(c.apart d h).2.1, hd d h⟩
  · rw [m4 d (hd d h)]; exact (c.apart d h).2.2
  · exact OwnL.append m3 (OwnL.keep _ _ _ (fun b h => m4 b (hb b h)) c.own)
  · simp only [List.mem_append, not_or] at h1
    rw [m4 x h1.2, c.keep x h1.1 h2]
/-- A struct's pieces are made. -/
theorem Coll.madeA {st : Store} {ds : List Nat} {es os : List AV} {bs : List Nat} {s s' : Store} {cs : List AV} {r : AV} (c : Coll st ds es os bs s) (m : Made s (.agg cs) r s') :
    (∀ d ∈ ds, s' d = s d) ∧ ∃ qs bs', r = .agg (weave cs qs) ∧ Coll st ds (es ++ cs.filter fun a => !isSc a) (os ++ qs) bs' s' := by
  obtain ⟨b2, m1, m2, m3, m4⟩ := m
  obtain ⟨qs, rfl, y⟩ := own_pieces.1 m3
  obtain ⟨h1, h2⟩ := c.madeL m1 m2 y m4
  exact ⟨h1, qs, _, rfl, h2⟩
theorem Coll.done {st : Store} {ds : List Nat} {es os : List AV} {bs : List Nat} {s : Store} (c : Coll st ds es os bs s) {a r : AV} (h : OwnL s es os bs → Own s a r bs) : ∃ ds, MadeJ st ds a r s :=
  ⟨ds, bs, c.nd, c.fresh, fun d hd => ⟨(c.apart d hd).1, (c.apart d hd).2.1⟩, h c.own, fun b h1 h2 => c.keep b h1 h2⟩

theorem Coll.two {st : Store} {b b2 : Nat} {o o2 : AO} (hb : st b = none) (hb2 : (st.upd b o) b2 = none) : b2 ≠ b ∧ Coll st [b, b2] [] [] [] ((st.upd b o).upd b2 o2) := by
  have hne : b2 ≠ b := by rintro rfl; rw [Store.upd_same] at hb2; cases hb2
  have hn2 : st b2 = none := by rw [Store.upd_ne st _ hne] at hb2; exact hb2
  refine ⟨hne, Coll.start (fun d hd => ?_) (fun x hx => ?_)⟩
  · simp only [List.mem_cons, List.not_mem_nil, or_false] at hd
    rcases hd with rfl | rfl
    · exact ⟨hb, by rw [Store.upd_ne _ _ (Ne.symm hne), Store.upd_same]; simp⟩
    · exact ⟨hn2, by rw [Store.upd_same]; simp⟩
  · simp only [List.mem_cons, List.not_mem_nil, or_false, not_or] at hx
    rw [Store.upd_ne _ _ hx.2, Store.upd_ne _ _ hx.1]
theorem Coll.none {st : Store} {ds : List Nat} {s : Store} {bs : List Nat} (c : Coll st ds [] [] bs s) {a : AV} (h : Own s a a []) : ∃ ds, MadeJ st ds a a s := by
  have := c.own
  simp only [OwnL, true_and] at this
  subst this
  exact c.done fun _ => h

/-! ### Data -/
/-- A frame: its type, its text. -/
abbrev Fr := Int × ByteArray
def frAv (f : Fr) : AV := .agg [.int .i64 f.1, .str f.2]
theorem frAv_width (f : Fr) : (frAv f).width = 2 := rfl
theorem frAv_agg (f : Fr) : (frAv f).isAgg = true := rfl
theorem frAv_store (f : Fr) : (frAv f).cells.all AV.storable = true := rfl
def frSame (x y : Fr) : Bool := decide (x.1 = y.1) && decide (x.2 = y.2)
def frSz (f : Fr) : Nat := f.2.size
abbrev frs (l : List Fr) : AV := .slice (l.map frAv)
abbrev bts (l : List Bt) : AV := .slice (l.map byteAv)
/-- What a decoder holds. -/
def dcAv (r : List Bt) (b : Bool) : AV := .agg [bts r, .bool b]
/-- A client. -/
structure Clt where
  rest : List Bt
  brk : Bool
  wait : List Fr
  prog : List Cl
  act : Bool
  ses : Ss
  told : Bool
  out : List Fr
def cltCells (c : Clt) : List AV := [bts c.rest, .bool c.brk, frs c.wait, .slice (c.prog.map clAv), .bool c.act, .slice (c.ses.p.map clAv), .slice (c.ses.q.map Tm.av), .int .i64 c.ses.quota, .int .i64 c.ses.used, .int .i64 c.ses.sent, .int .i64 c.ses.fin, .bool c.told, frs c.out]
def cltAv (c : Clt) : AV := .agg (cltCells c)
theorem cltAv_width (c : Clt) : (cltAv c).width = 13 := rfl
theorem cltAv_agg (c : Clt) : (cltAv c).isAgg = true := rfl
theorem cltAv_store (c : Clt) : (cltAv c).cells.all AV.storable = true := rfl
/-- A server. -/
structure Sv where
  cs : List Clt
  quota : Int
def svAv (s : Sv) : AV := .agg [.slice (s.cs.map cltAv), .int .i64 s.quota]
/-- The pieces of a client. -/
def cltP (c : Clt) : List AV := [bts c.rest, frs c.wait, .slice (c.prog.map clAv), .slice (c.ses.p.map clAv), .slice (c.ses.q.map Tm.av), frs c.out]
theorem own_Clt {st : Store} {c : Clt} {o : AV} {bs : List Nat} :
    Own st (cltAv c) o bs ↔ ∃ q0 q1 q2 q3 q4 q5, o = .agg [q0, .bool c.brk, q1, q2, .bool c.act, q3, q4, .int .i64 c.ses.quota, .int .i64 c.ses.used, .int .i64 c.ses.sent, .int .i64 c.ses.fin, .bool c.told, q5] ∧ OwnL st (cltP c) [q0, q1, q2, q3, q4, q5] bs := by
  unfold cltAv
  rw [own_pieces]
  constructor
  · rintro ⟨qs, rfl, x⟩
    have hl := x.length
    replace x : OwnL st (cltP c) qs bs := x
    match qs, hl with
    | [q0, q1, q2, q3, q4, q5], _ => exact ⟨q0, q1, q2, q3, q4, q5, rfl, x⟩
  · rintro ⟨q0, q1, q2, q3, q4, q5, rfl, x⟩
    exact ⟨[q0, q1, q2, q3, q4, q5], rfl, x⟩
theorem own_Sv {st : Store} {s : Sv} {o : AV} {bs : List Nat} : Own st (svAv s) o bs ↔ ∃ q, o = .agg [q, .int .i64 s.quota] ∧ Own st (.slice (s.cs.map cltAv)) q bs := by
  unfold svAv
  rw [own_pieces]
  constructor
  · rintro ⟨qs, rfl, x⟩
    have hl := x.length
    replace x : OwnL st [.slice (s.cs.map cltAv)] qs bs := x
    match qs, hl with
    | [q], _ =>
      refine ⟨q, rfl, ?_⟩
      generalize AV.slice (s.cs.map cltAv) = y at x ⊢
      simp only [OwnL] at x
      obtain ⟨o, os', b1, b2, e, rfl, h, rfl, rfl⟩ := x
      obtain ⟨rfl, _⟩ := List.cons.inj e
      simpa using h
  · rintro ⟨q, rfl, x⟩
    refine ⟨[q], rfl, ?_⟩
    show OwnL st [.slice (s.cs.map cltAv)] [q] bs
    generalize AV.slice (s.cs.map cltAv) = y at x ⊢
    simp only [OwnL]
    exact ⟨q, [], bs, [], rfl, by simp, x, rfl, rfl⟩
def dcSz (r : List Bt) : Nat := r.length
abbrev szF (l : List Fr) : Nat := l.length + sumL frSz l
def ssSz (s : Ss) : Nat := szC s.p + szL s.q
def cltSz (c : Clt) : Nat := c.rest.length + szF c.wait + szC c.prog + ssSz c.ses + szF c.out
def frMks (f : Fr) : Nat := 2
def frMark (f : Fr) (j : Int) : Fr := (j, mt (j + 1))
def cltMks (c : Clt) : Nat := c.rest.length + 1 + sumL frMks c.wait + sumL clMks c.prog + 1 + sumL clMks c.ses.p + sumL Tm.mks c.ses.q + 4 + 1 + sumL frMks c.out
theorem frMks_le : ∀ l : List Fr, sumL frMks l ≤ 2 * szF l
  | [] => by simp [sumL]
  | x :: l => by
    have := frMks_le l
    simp only [sumL, frMks, szF, List.length_cons] at this ⊢
    omega
theorem cltMks_le (c : Clt) : cltMks c ≤ 7 + 3 * cltSz c := by
  have h1 := frMks_le c.wait
  have h2 := frMks_le c.out
  have h3 := clMks_szC c.prog
  have h4 := clMks_szC c.ses.p
  have h5 := mks_szL c.ses.q
  unfold cltMks cltSz ssSz
  omega
theorem cltMks_sum : ∀ l : List Clt, sumL cltMks l ≤ 7 * (l.length + sumL cltSz l)
  | [] => by simp [sumL]
  | x :: l => by
    have h1 := cltMks_le x
    have h2 := cltMks_sum l
    simp only [sumL, List.length_cons] at h2 ⊢
    omega
end Go.AW
