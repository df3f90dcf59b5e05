import Derived.Test.YtccofeljgfmplaaUpFing
import Derived.Test.YtccofeljgfmplaaUpFini
import Derived.Test.YtccofeljgfmplaaUpFino
import Derived.Test.YtccofeljgfmplaaUpFinq
import Derived.ProofKit

/- Terms: what the reference's and the program's functions return. -/
namespace Go.AW
open Go.Proofs.Try
set_option linter.unusedSimpArgs false
set_option maxRecDepth 100000
theorem tf_Ts2_84 : (type_of% tI_2) ∧ (type_of% zI_2) ∧ (type_of% Go.Proofs.Try.underlying2) ∧ (type_of% tI_3) ∧ (type_of% zI_3) ∧ (type_of% Go.Proofs.Try.underlying3) ∧ (type_of% tI_4) ∧ (type_of% zI_4) ∧ (type_of% Go.Proofs.Try.underlying4) ∧ (type_of% tI_5) ∧ (type_of% zI_5) ∧ (type_of% Go.Proofs.Try.underlying5) ∧ (type_of% tI_6) ∧ (type_of% zI_6) ∧ (type_of% Go.Proofs.Try.underlying6) ∧ (type_of% tI_7) ∧ (type_of% zI_7) ∧ (type_of% fI_7_0) ∧ (type_of% fI_7_1) ∧ (type_of% fI_7_2) ∧ (type_of% fI_7_3) ∧ (type_of% bI_7) ∧ (type_of% tI_8) ∧ (type_of% zI_8) ∧ (type_of% fI_8_0) ∧ (type_of% fI_8_1) ∧ (type_of% fI_8_2) ∧ (type_of% fI_8_3) ∧ (type_of% bI_8) ∧ (type_of% tI_9) ∧ (type_of% zI_9) ∧ (type_of% Go.Proofs.Try.underlying9) ∧ (type_of% tI_10) ∧ (type_of% zI_10) ∧ (type_of% Go.Proofs.Try.underlying10) ∧ (type_of% tI_11) ∧ (type_of% zI_11) ∧ (type_of% Go.Proofs.Try.underlying11) ∧ (type_of% tI_12) ∧ (type_of% zI_12) ∧ (type_of% Go.Proofs.Try.underlying12) ∧ (type_of% tI_13) ∧ (type_of% zI_13) ∧ (type_of% fI_13_0) ∧ (type_of% fI_13_1) ∧ (type_of% bI_13) ∧ (type_of% tI_15) ∧ (type_of% zI_15) ∧ (type_of% tI_16) ∧ (type_of% zI_16) ∧ (type_of% tI_17) ∧ (type_of% zI_17) ∧ (type_of% tI_27) ∧ (type_of% zI_27) ∧ (type_of% eI_27) ∧ (type_of% eB_27) ∧ (type_of% eZ_27) ∧ (type_of% Go.Proofs.Try.underlying27) ∧ (type_of% tI_31) ∧ (type_of% zI_31) ∧ (type_of% fI_31_0) ∧ (type_of% bI_31) ∧ (type_of% tI_32) ∧ (type_of% zI_32) ∧ (type_of% fI_32_0) ∧ (type_of% bI_32) ∧ (type_of% tI_41) ∧ (type_of% zI_41) ∧ (type_of% fI_41_0) ∧ (type_of% fI_41_1) ∧ (type_of% fI_41_2) ∧ (type_of% fI_41_3) ∧ (type_of% bI_41) ∧ (type_of% tI_64) ∧ (type_of% zI_64) ∧ (type_of% fI_64_0) ∧ (type_of% fI_64_1) ∧ (type_of% bI_64) := ⟨tI_2, zI_2, Go.Proofs.Try.underlying2, tI_3, zI_3, Go.Proofs.Try.underlying3, tI_4, zI_4, Go.Proofs.Try.underlying4, tI_5, zI_5, Go.Proofs.Try.underlying5, tI_6, zI_6, Go.Proofs.Try.underlying6, tI_7, zI_7, fI_7_0, fI_7_1, fI_7_2, fI_7_3, bI_7, tI_8, zI_8, fI_8_0, fI_8_1, fI_8_2, fI_8_3, bI_8, tI_9, zI_9, Go.Proofs.Try.underlying9, tI_10, zI_10, Go.Proofs.Try.underlying10, tI_11, zI_11, Go.Proofs.Try.underlying11, tI_12, zI_12, Go.Proofs.Try.underlying12, tI_13, zI_13, fI_13_0, fI_13_1, bI_13, tI_15, zI_15, tI_16, zI_16, tI_17, zI_17, tI_27, zI_27, eI_27, eB_27, eZ_27, Go.Proofs.Try.underlying27, tI_31, zI_31, fI_31_0, bI_31, tI_32, zI_32, fI_32_0, bI_32, tI_41, zI_41, fI_41_0, fI_41_1, fI_41_2, fI_41_3, bI_41, tI_64, zI_64, fI_64_0, fI_64_1, bI_64⟩
theorem c_EqualFuncTerm (l l' : List Tm) (g : FuncId) (st : Store) (hc : ∀ x ∈ l, ∀ (y : Tm) (st : Store), ACalls prog g [Tm.av x, Tm.av y] st (fun r st' => r = .bool (Tm.same x y) ∧ st' = st)) :
    ACalls prog 84 [.slice (l.map Tm.av), .slice (l'.map Tm.av), .func g []] st (fun r st' => r = .bool (eqL Tm.same l l') ∧ st' = st) := by
  refine acalls_fit [1000000] func84 ntmps84 rfl rfl (by kernel_rfl) (by decide +kernel) (by show 3 ≤ _; decide +kernel) ?_
  simp only [fitsL, AV.fits, and_true, List.length_map]
  intro ⟨⟨hl, _⟩, ⟨hl', _⟩⟩
  simp -implicitDefEqProofs only [List.length_map, Tm.av_agg, Tm.av_width, Tm.av_store, Tm.av_junk, evb0, evb1, evb2, evb3, evb4, evb5, evb6, evb7, evb8, evb9, ↓evZ2, ↓evZ3, ↓Int.cast_ofNat_Int, implies_true, ne_eq, or_false, false_or, or_self, gt_iff_lt, isMut, aFn, List.contains, List.elem, aBox, aField, aLoad, sub, aNil, aPick, aExt, aFld, gd, noJunk, plainOp, aBuildSlice, aBuild, aFill, aParts, seqParts, fitAll, List.range', ↓reduceIte, reduceCtorEq, Nat.reduceEqDiff, Nat.reduceAdd, Nat.reduceLeDiff, Nat.reduceMul, Nat.reduceLT, Nat.reduceBEq, Int.reduceEq, tf_Ts2_84]
  refine ⟨fun h4 => ?_, fun h4 => ?_⟩
  · simp -implicitDefEqProofs only [List.length_map, Tm.av_agg, Tm.av_width, Tm.av_store, Tm.av_junk, evb0, evb1, evb2, evb3, evb4, evb5, evb6, evb7, evb8, evb9, ↓evZ2, ↓evZ3, ↓Int.cast_ofNat_Int, implies_true, ne_eq, or_false, false_or, or_self, gt_iff_lt, isMut, aFn, List.contains, List.elem, aBox, aField, aLoad, sub, aNil, aPick, aExt, aFld, gd, noJunk, plainOp, aBuildSlice, aBuild, aFill, aParts, seqParts, fitAll, List.range', ↓reduceIte, reduceCtorEq, Nat.reduceEqDiff, Nat.reduceAdd, Nat.reduceLeDiff, Nat.reduceMul, Nat.reduceLT, Nat.reduceBEq, Int.reduceEq, tf_Ts2_84]
    simp only [Bool.not_eq_true', decide_eq_false_iff_not] at h4
    rw [eqL_len _ (show l.length ≠ l'.length by omega)]
  simp only [Bool.not_eq_false', decide_eq_true_eq] at h4
  have h4' : l.length = l'.length := by omega
  simp -implicitDefEqProofs only [List.length_map, Tm.av_agg, Tm.av_width, Tm.av_store, Tm.av_junk, evb0, evb1, evb2, evb3, evb4, evb5, evb6, evb7, evb8, evb9, ↓evZ2, ↓evZ3, ↓Int.cast_ofNat_Int, implies_true, ne_eq, or_false, false_or, or_self, gt_iff_lt, isMut, aFn, List.contains, List.elem, aBox, aField, aLoad, sub, aNil, aPick, aExt, aFld, gd, noJunk, plainOp, aBuildSlice, aBuild, aFill, aParts, seqParts, fitAll, List.range', ↓reduceIte, reduceCtorEq, Nat.reduceEqDiff, Nat.reduceAdd, Nat.reduceLeDiff, Nat.reduceMul, Nat.reduceLT, Nat.reduceBEq, Int.reduceEq, tf_Ts2_84]
  refine arun_each (σ := Unit) [1000000] [1, 2, 15, 16] l (fun i _ => ∀ (j : Nat) (x y : Tm), j < i → l[j]? = some x → l'[j]? = some y → Tm.same x y = true) (fun i _ => [(17, .int .i64 i)]) (fun _ _ => st) (by decide +kernel) ⟨(), by intro j x y h; omega, LessL.mk (by simp -implicitDefEqProofs only [List.length_map, Tm.av_agg, Tm.av_width, Tm.av_store, Tm.av_junk, evb0, evb1, evb2, evb3, evb4, evb5, evb6, evb7, evb8, evb9, ↓evZ2, ↓evZ3, ↓Int.cast_ofNat_Int, implies_true, ne_eq, or_false, false_or, or_self, gt_iff_lt, isMut, aFn, List.contains, List.elem, aBox, aField, aLoad, sub, aNil, aPick, aExt, aFld, gd, noJunk, plainOp, aBuildSlice, aBuild, aFill, aParts, seqParts, fitAll, List.range', ↓reduceIte, reduceCtorEq, Nat.reduceEqDiff, Nat.reduceAdd, Nat.reduceLeDiff, Nat.reduceMul, Nat.reduceLT, Nat.reduceBEq, Int.reduceEq, tf_Ts2_84])⟩ (fun i x _ hx hlt hlt' hdr hall => ?_) (fun _ hge hall => ?_)
  case refine_2 =>
    simp -implicitDefEqProofs only [hge, List.length_map, Tm.av_agg, Tm.av_width, Tm.av_store, Tm.av_junk, evb0, evb1, evb2, evb3, evb4, evb5, evb6, evb7, evb8, evb9, ↓evZ2, ↓evZ3, ↓Int.cast_ofNat_Int, implies_true, ne_eq, or_false, false_or, or_self, gt_iff_lt, isMut, aFn, List.contains, List.elem, aBox, aField, aLoad, sub, aNil, aPick, aExt, aFld, gd, noJunk, plainOp, aBuildSlice, aBuild, aFill, aParts, seqParts, fitAll, List.range', ↓reduceIte, reduceCtorEq, Nat.reduceEqDiff, Nat.reduceAdd, Nat.reduceLeDiff, Nat.reduceMul, Nat.reduceLT, Nat.reduceBEq, Int.reduceEq, tf_Ts2_84]
    rw [eqL_all _ h4' (fun j x y h6 h7 => hall j x y (by have := (List.getElem?_eq_some_iff.1 h6).1; omega) h6 h7)]
  obtain ⟨y, hy⟩ : ∃ y, l'[i]? = some y := ⟨_, List.getElem?_eq_getElem (h4' ▸ hlt)⟩
  have hw := wrap64 (n := (i : Int) + 1) (by omega) (by omega)
  simp -implicitDefEqProofs only [hlt', List.length_map, Tm.av_agg, Tm.av_width, Tm.av_store, Tm.av_junk, ev_at (av := Tm.av) eI_27 hx (Tm.av_width x), ev_at (av := Tm.av) eI_27 hy (Tm.av_width y), evb0, evb1, evb2, evb3, evb4, evb5, evb6, evb7, evb8, evb9, ↓evZ2, ↓evZ3, ↓Int.cast_ofNat_Int, implies_true, ne_eq, or_false, false_or, or_self, gt_iff_lt, isMut, aFn, List.contains, List.elem, aBox, aField, aLoad, sub, aNil, aPick, aExt, aFld, gd, noJunk, plainOp, aBuildSlice, aBuild, aFill, aParts, seqParts, fitAll, List.range', ↓reduceIte, reduceCtorEq, Nat.reduceEqDiff, Nat.reduceAdd, Nat.reduceLeDiff, Nat.reduceMul, Nat.reduceLT, Nat.reduceBEq, Int.reduceEq, tf_Ts2_84]
  refine (hc x (List.mem_of_getElem? hx) y _).to ?_
  simp -implicitDefEqProofs only [List.length_map, Tm.av_agg, Tm.av_width, Tm.av_store, Tm.av_junk, ev_at (av := Tm.av) eI_27 hx (Tm.av_width x), ev_at (av := Tm.av) eI_27 hy (Tm.av_width y), evb0, evb1, evb2, evb3, evb4, evb5, evb6, evb7, evb8, evb9, ↓evZ2, ↓evZ3, ↓Int.cast_ofNat_Int, implies_true, ne_eq, or_false, false_or, or_self, gt_iff_lt, isMut, aFn, List.contains, List.elem, aBox, aField, aLoad, sub, aNil, aPick, aExt, aFld, gd, noJunk, plainOp, aBuildSlice, aBuild, aFill, aParts, seqParts, fitAll, List.range', ↓reduceIte, reduceCtorEq, Nat.reduceEqDiff, Nat.reduceAdd, Nat.reduceLeDiff, Nat.reduceMul, Nat.reduceLT, Nat.reduceBEq, Int.reduceEq, tf_Ts2_84]
  refine ⟨fun h6 => ?_, fun h6 => ?_⟩
  · simp -implicitDefEqProofs only [List.length_map, Tm.av_agg, Tm.av_width, Tm.av_store, Tm.av_junk, ev_at (av := Tm.av) eI_27 hx (Tm.av_width x), ev_at (av := Tm.av) eI_27 hy (Tm.av_width y), evb0, evb1, evb2, evb3, evb4, evb5, evb6, evb7, evb8, evb9, ↓evZ2, ↓evZ3, ↓Int.cast_ofNat_Int, implies_true, ne_eq, or_false, false_or, or_self, gt_iff_lt, isMut, aFn, List.contains, List.elem, aBox, aField, aLoad, sub, aNil, aPick, aExt, aFld, gd, noJunk, plainOp, aBuildSlice, aBuild, aFill, aParts, seqParts, fitAll, List.range', ↓reduceIte, reduceCtorEq, Nat.reduceEqDiff, Nat.reduceAdd, Nat.reduceLeDiff, Nat.reduceMul, Nat.reduceLT, Nat.reduceBEq, Int.reduceEq, tf_Ts2_84]
    have h7 : Tm.same x y = false := by simpa using h6
    rw [eqL_at _ i x y hx hy h7]
  have h7 : Tm.same x y = true := by simpa using h6
  simp -implicitDefEqProofs only [List.length_map, Tm.av_agg, Tm.av_width, Tm.av_store, Tm.av_junk, ev_at (av := Tm.av) eI_27 hx (Tm.av_width x), ev_at (av := Tm.av) eI_27 hy (Tm.av_width y), evb0, evb1, evb2, evb3, evb4, evb5, evb6, evb7, evb8, evb9, ↓evZ2, ↓evZ3, ↓Int.cast_ofNat_Int, implies_true, ne_eq, or_false, false_or, or_self, gt_iff_lt, isMut, aFn, List.contains, List.elem, aBox, aField, aLoad, sub, aNil, aPick, aExt, aFld, gd, noJunk, plainOp, aBuildSlice, aBuild, aFill, aParts, seqParts, fitAll, List.range', ↓reduceIte, reduceCtorEq, Nat.reduceEqDiff, Nat.reduceAdd, Nat.reduceLeDiff, Nat.reduceMul, Nat.reduceLT, Nat.reduceBEq, Int.reduceEq, tf_Ts2_84]
  refine ⟨(), fun j u v hj hu hv => ?_, LessL.mk (by simp -implicitDefEqProofs only [hw, List.length_map, Tm.av_agg, Tm.av_width, Tm.av_store, Tm.av_junk, ev_at (av := Tm.av) eI_27 hx (Tm.av_width x), ev_at (av := Tm.av) eI_27 hy (Tm.av_width y), evb0, evb1, evb2, evb3, evb4, evb5, evb6, evb7, evb8, evb9, ↓evZ2, ↓evZ3, ↓Int.cast_ofNat_Int, implies_true, ne_eq, or_false, false_or, or_self, gt_iff_lt, isMut, aFn, List.contains, List.elem, aBox, aField, aLoad, sub, aNil, aPick, aExt, aFld, gd, noJunk, plainOp, aBuildSlice, aBuild, aFill, aParts, seqParts, fitAll, List.range', ↓reduceIte, reduceCtorEq, Nat.reduceEqDiff, Nat.reduceAdd, Nat.reduceLeDiff, Nat.reduceMul, Nat.reduceLT, Nat.reduceBEq, Int.reduceEq, tf_Ts2_84])⟩
  rcases Nat.lt_or_ge j i with h8 | h8
  · exact hall j u v h8 hu hv
  · obtain rfl : j = i := by omega
    rw [hx] at hu; rw [hy] at hv; cases hu; cases hv; exact h7


theorem tf_Ts2_29 : (type_of% tI_2) ∧ (type_of% zI_2) ∧ (type_of% Go.Proofs.Try.underlying2) ∧ (type_of% tI_3) ∧ (type_of% zI_3) ∧ (type_of% Go.Proofs.Try.underlying3) ∧ (type_of% tI_4) ∧ (type_of% zI_4) ∧ (type_of% Go.Proofs.Try.underlying4) ∧ (type_of% tI_5) ∧ (type_of% zI_5) ∧ (type_of% Go.Proofs.Try.underlying5) ∧ (type_of% tI_9) ∧ (type_of% zI_9) ∧ (type_of% Go.Proofs.Try.underlying9) ∧ (type_of% tI_12) ∧ (type_of% zI_12) ∧ (type_of% Go.Proofs.Try.underlying12) ∧ (type_of% tI_19) ∧ (type_of% zI_19) ∧ (type_of% fI_19_0) ∧ (type_of% bI_19) ∧ (type_of% tI_27) ∧ (type_of% zI_27) ∧ (type_of% eI_27) ∧ (type_of% eB_27) ∧ (type_of% eZ_27) ∧ (type_of% Go.Proofs.Try.underlying27) ∧ (type_of% tI_31) ∧ (type_of% zI_31) ∧ (type_of% fI_31_0) ∧ (type_of% bI_31) ∧ (type_of% tI_41) ∧ (type_of% zI_41) ∧ (type_of% fI_41_0) ∧ (type_of% fI_41_1) ∧ (type_of% fI_41_2) ∧ (type_of% fI_41_3) ∧ (type_of% bI_41) := ⟨tI_2, zI_2, Go.Proofs.Try.underlying2, tI_3, zI_3, Go.Proofs.Try.underlying3, tI_4, zI_4, Go.Proofs.Try.underlying4, tI_5, zI_5, Go.Proofs.Try.underlying5, tI_9, zI_9, Go.Proofs.Try.underlying9, tI_12, zI_12, Go.Proofs.Try.underlying12, tI_19, zI_19, fI_19_0, bI_19, tI_27, zI_27, eI_27, eB_27, eZ_27, Go.Proofs.Try.underlying27, tI_31, zI_31, fI_31_0, bI_31, tI_41, zI_41, fI_41_0, fI_41_1, fI_41_2, fI_41_3, bI_41⟩
theorem c_impl_TermSame : ∀ (a b : Tm) (st : Store), ACalls prog 29 [a.av, b.av] st (fun r st' => r = .bool (a.same b) ∧ st' = st)
  | .mk k n s ts, .mk k' n' s' ts', st => by
    have hc := c_EqualFuncTerm ts ts' 29 st fun x hx y st => c_impl_TermSame x y st
    refine acalls_fit [] func29 ntmps29 rfl rfl (by kernel_rfl) (by decide +kernel) (by show 2 ≤ _; decide +kernel) ?_
    intro _
    simp only [Tm.av_mk, Tm.same_mk]
    simp -implicitDefEqProofs only [evb0, evb1, evb2, evb3, evb4, evb5, evb6, evb7, evb8, evb9, ↓evZ2, ↓evZ3, ↓Int.cast_ofNat_Int, implies_true, ne_eq, or_false, false_or, or_self, gt_iff_lt, isMut, aFn, List.contains, List.elem, aBox, aField, aLoad, sub, aNil, aPick, aExt, aFld, gd, noJunk, plainOp, aBuildSlice, aBuild, aFill, aParts, seqParts, fitAll, List.range', ↓reduceIte, reduceCtorEq, Nat.reduceEqDiff, Nat.reduceAdd, Nat.reduceLeDiff, Nat.reduceMul, Nat.reduceLT, Nat.reduceBEq, Int.reduceEq, tf_Ts2_29]
    refine opsG_split (fun h1 => ?_) (fun h1 => ?_)
    case refine_2 =>
      simp -implicitDefEqProofs only [h1, evb0, evb1, evb2, evb3, evb4, evb5, evb6, evb7, evb8, evb9, ↓evZ2, ↓evZ3, ↓Int.cast_ofNat_Int, implies_true, ne_eq, or_false, false_or, or_self, gt_iff_lt, isMut, aFn, List.contains, List.elem, aBox, aField, aLoad, sub, aNil, aPick, aExt, aFld, gd, noJunk, plainOp, aBuildSlice, aBuild, aFill, aParts, seqParts, fitAll, List.range', ↓reduceIte, reduceCtorEq, Nat.reduceEqDiff, Nat.reduceAdd, Nat.reduceLeDiff, Nat.reduceMul, Nat.reduceLT, Nat.reduceBEq, Int.reduceEq, tf_Ts2_29]
      simp at h1
      simp [h1]
    simp -implicitDefEqProofs only [h1, evb0, evb1, evb2, evb3, evb4, evb5, evb6, evb7, evb8, evb9, ↓evZ2, ↓evZ3, ↓Int.cast_ofNat_Int, implies_true, ne_eq, or_false, false_or, or_self, gt_iff_lt, isMut, aFn, List.contains, List.elem, aBox, aField, aLoad, sub, aNil, aPick, aExt, aFld, gd, noJunk, plainOp, aBuildSlice, aBuild, aFill, aParts, seqParts, fitAll, List.range', ↓reduceIte, reduceCtorEq, Nat.reduceEqDiff, Nat.reduceAdd, Nat.reduceLeDiff, Nat.reduceMul, Nat.reduceLT, Nat.reduceBEq, Int.reduceEq, tf_Ts2_29]
    refine opsG_split (fun h2 => ?_) (fun h2 => ?_)
    case refine_2 =>
      simp -implicitDefEqProofs only [h1, h2, evb0, evb1, evb2, evb3, evb4, evb5, evb6, evb7, evb8, evb9, ↓evZ2, ↓evZ3, ↓Int.cast_ofNat_Int, implies_true, ne_eq, or_false, false_or, or_self, gt_iff_lt, isMut, aFn, List.contains, List.elem, aBox, aField, aLoad, sub, aNil, aPick, aExt, aFld, gd, noJunk, plainOp, aBuildSlice, aBuild, aFill, aParts, seqParts, fitAll, List.range', ↓reduceIte, reduceCtorEq, Nat.reduceEqDiff, Nat.reduceAdd, Nat.reduceLeDiff, Nat.reduceMul, Nat.reduceLT, Nat.reduceBEq, Int.reduceEq, tf_Ts2_29]
      simp at h2
      simp [h2]
    simp -implicitDefEqProofs only [h1, h2, evb0, evb1, evb2, evb3, evb4, evb5, evb6, evb7, evb8, evb9, ↓evZ2, ↓evZ3, ↓Int.cast_ofNat_Int, implies_true, ne_eq, or_false, false_or, or_self, gt_iff_lt, isMut, aFn, List.contains, List.elem, aBox, aField, aLoad, sub, aNil, aPick, aExt, aFld, gd, noJunk, plainOp, aBuildSlice, aBuild, aFill, aParts, seqParts, fitAll, List.range', ↓reduceIte, reduceCtorEq, Nat.reduceEqDiff, Nat.reduceAdd, Nat.reduceLeDiff, Nat.reduceMul, Nat.reduceLT, Nat.reduceBEq, Int.reduceEq, tf_Ts2_29]
    refine opsG_split (fun h3 => ?_) (fun h3 => ?_)
    case refine_2 =>
      simp -implicitDefEqProofs only [h1, h2, h3, evb0, evb1, evb2, evb3, evb4, evb5, evb6, evb7, evb8, evb9, ↓evZ2, ↓evZ3, ↓Int.cast_ofNat_Int, implies_true, ne_eq, or_false, false_or, or_self, gt_iff_lt, isMut, aFn, List.contains, List.elem, aBox, aField, aLoad, sub, aNil, aPick, aExt, aFld, gd, noJunk, plainOp, aBuildSlice, aBuild, aFill, aParts, seqParts, fitAll, List.range', ↓reduceIte, reduceCtorEq, Nat.reduceEqDiff, Nat.reduceAdd, Nat.reduceLeDiff, Nat.reduceMul, Nat.reduceLT, Nat.reduceBEq, Int.reduceEq, tf_Ts2_29]
      simp at h3
      simp [h3]
    simp -implicitDefEqProofs only [h1, h2, h3, evb0, evb1, evb2, evb3, evb4, evb5, evb6, evb7, evb8, evb9, ↓evZ2, ↓evZ3, ↓Int.cast_ofNat_Int, implies_true, ne_eq, or_false, false_or, or_self, gt_iff_lt, isMut, aFn, List.contains, List.elem, aBox, aField, aLoad, sub, aNil, aPick, aExt, aFld, gd, noJunk, plainOp, aBuildSlice, aBuild, aFill, aParts, seqParts, fitAll, List.range', ↓reduceIte, reduceCtorEq, Nat.reduceEqDiff, Nat.reduceAdd, Nat.reduceLeDiff, Nat.reduceMul, Nat.reduceLT, Nat.reduceBEq, Int.reduceEq, tf_Ts2_29]
    refine hc.to ?_
    simp -implicitDefEqProofs only [h1, h2, h3, evb0, evb1, evb2, evb3, evb4, evb5, evb6, evb7, evb8, evb9, ↓evZ2, ↓evZ3, ↓Int.cast_ofNat_Int, implies_true, ne_eq, or_false, false_or, or_self, gt_iff_lt, isMut, aFn, List.contains, List.elem, aBox, aField, aLoad, sub, aNil, aPick, aExt, aFld, gd, noJunk, plainOp, aBuildSlice, aBuild, aFill, aParts, seqParts, fitAll, List.range', ↓reduceIte, reduceCtorEq, Nat.reduceEqDiff, Nat.reduceAdd, Nat.reduceLeDiff, Nat.reduceMul, Nat.reduceLT, Nat.reduceBEq, Int.reduceEq, tf_Ts2_29]
termination_by a => SizeOf.sizeOf a
decreasing_by have := List.sizeOf_lt_of_mem hx; simp only [Tm.mk.sizeOf_spec]; omega

end Go.AW


/- Unified terms are equal: the law. -/
namespace Go.AW
open Go.Proofs.Try
set_option linter.unusedSimpArgs false
set_option maxRecDepth 100000

theorem tm_same_refl (t : Tm) : t.same t = true := (Tm.same_eq t t).2 rfl

theorem tf_L1_25 : (type_of% tI_2) ∧ (type_of% zI_2) ∧ (type_of% Go.Proofs.Try.underlying2) ∧ (type_of% tI_3) ∧ (type_of% zI_3) ∧ (type_of% Go.Proofs.Try.underlying3) ∧ (type_of% tI_4) ∧ (type_of% zI_4) ∧ (type_of% Go.Proofs.Try.underlying4) ∧ (type_of% tI_5) ∧ (type_of% zI_5) ∧ (type_of% Go.Proofs.Try.underlying5) ∧ (type_of% tI_6) ∧ (type_of% zI_6) ∧ (type_of% Go.Proofs.Try.underlying6) ∧ (type_of% tI_7) ∧ (type_of% zI_7) ∧ (type_of% fI_7_0) ∧ (type_of% fI_7_1) ∧ (type_of% fI_7_2) ∧ (type_of% fI_7_3) ∧ (type_of% bI_7) ∧ (type_of% tI_8) ∧ (type_of% zI_8) ∧ (type_of% fI_8_0) ∧ (type_of% fI_8_1) ∧ (type_of% fI_8_2) ∧ (type_of% fI_8_3) ∧ (type_of% bI_8) ∧ (type_of% tI_9) ∧ (type_of% zI_9) ∧ (type_of% Go.Proofs.Try.underlying9) ∧ (type_of% tI_11) ∧ (type_of% zI_11) ∧ (type_of% Go.Proofs.Try.underlying11) ∧ (type_of% tI_12) ∧ (type_of% zI_12) ∧ (type_of% Go.Proofs.Try.underlying12) ∧ (type_of% tI_13) ∧ (type_of% zI_13) ∧ (type_of% fI_13_0) ∧ (type_of% fI_13_1) ∧ (type_of% bI_13) ∧ (type_of% tI_39) ∧ (type_of% zI_39) ∧ (type_of% eI_39) ∧ (type_of% eB_39) ∧ (type_of% eZ_39) ∧ (type_of% Go.Proofs.Try.underlying39) ∧ (type_of% tI_41) ∧ (type_of% zI_41) ∧ (type_of% fI_41_0) ∧ (type_of% fI_41_1) ∧ (type_of% fI_41_2) ∧ (type_of% fI_41_3) ∧ (type_of% bI_41) ∧ (type_of% tI_44) ∧ (type_of% zI_44) ∧ (type_of% eI_44) ∧ (type_of% eB_44) ∧ (type_of% eZ_44) ∧ (type_of% Go.Proofs.Try.underlying44) ∧ (type_of% tI_54) ∧ (type_of% zI_54) ∧ (type_of% fI_54_0) ∧ (type_of% fI_54_1) ∧ (type_of% bI_54) ∧ (type_of% tI_64) ∧ (type_of% zI_64) ∧ (type_of% fI_64_0) ∧ (type_of% fI_64_1) ∧ (type_of% bI_64) := ⟨tI_2, zI_2, Go.Proofs.Try.underlying2, tI_3, zI_3, Go.Proofs.Try.underlying3, tI_4, zI_4, Go.Proofs.Try.underlying4, tI_5, zI_5, Go.Proofs.Try.underlying5, tI_6, zI_6, Go.Proofs.Try.underlying6, tI_7, zI_7, fI_7_0, fI_7_1, fI_7_2, fI_7_3, bI_7, tI_8, zI_8, fI_8_0, fI_8_1, fI_8_2, fI_8_3, bI_8, tI_9, zI_9, Go.Proofs.Try.underlying9, tI_11, zI_11, Go.Proofs.Try.underlying11, tI_12, zI_12, Go.Proofs.Try.underlying12, tI_13, zI_13, fI_13_0, fI_13_1, bI_13, tI_39, zI_39, eI_39, eB_39, eZ_39, Go.Proofs.Try.underlying39, tI_41, zI_41, fI_41_0, fI_41_1, fI_41_2, fI_41_3, bI_41, tI_44, zI_44, eI_44, eB_44, eZ_44, Go.Proofs.Try.underlying44, tI_54, zI_54, fI_54_0, fI_54_1, bI_54, tI_64, zI_64, fI_64_0, fI_64_1, bI_64⟩
theorem c_pgBinds (bs : List Bd) (st : Store) : ACalls prog 25 [.slice (bs.map bdAv), .slice (bs.map bdAv)] st (fun r st' => r = .bool true ∧ st' = st) := by
  refine acalls_fit [1000000] func25 ntmps25 rfl rfl (by kernel_rfl) (by decide +kernel) (by show 2 ≤ _; decide +kernel) ?_
  simp only [fitsL, AV.fits, and_true, List.length_map]
  intro ⟨⟨hl, _⟩, _⟩
  simp -implicitDefEqProofs only [decide_true, List.length_map, evb0, evb1, evb2, evb3, evb4, evb5, evb6, evb7, evb8, evb9, ↓evZ2, ↓evZ3, ↓Int.cast_ofNat_Int, implies_true, ne_eq, or_false, false_or, or_self, gt_iff_lt, isMut, aFn, List.contains, List.elem, aBox, aField, aLoad, sub, aNil, aPick, aExt, aFld, gd, noJunk, plainOp, aBuildSlice, aBuild, aFill, aParts, seqParts, fitAll, List.range', ↓reduceIte, reduceCtorEq, Nat.reduceEqDiff, Nat.reduceAdd, Nat.reduceLeDiff, Nat.reduceMul, Nat.reduceLT, Nat.reduceBEq, Int.reduceEq, tf_L1_25]
  refine arun_each (σ := Unit) [1000000] [0, 1] bs (fun _ _ => True) (fun i _ => [(4, .bool false), (5, .int .i64 i)]) (fun _ _ => st) (by decide +kernel) ⟨(), trivial, LessL.mk (by simp -implicitDefEqProofs only [List.length_map, evb0, evb1, evb2, evb3, evb4, evb5, evb6, evb7, evb8, evb9, ↓evZ2, ↓evZ3, ↓Int.cast_ofNat_Int, implies_true, ne_eq, or_false, false_or, or_self, gt_iff_lt, isMut, aFn, List.contains, List.elem, aBox, aField, aLoad, sub, aNil, aPick, aExt, aFld, gd, noJunk, plainOp, aBuildSlice, aBuild, aFill, aParts, seqParts, fitAll, List.range', ↓reduceIte, reduceCtorEq, Nat.reduceEqDiff, Nat.reduceAdd, Nat.reduceLeDiff, Nat.reduceMul, Nat.reduceLT, Nat.reduceBEq, Int.reduceEq, tf_L1_25])⟩ (fun i x _ hx hlt hlt' hdr _ => ?_) (fun _ hge _ => ?_)
  case refine_2 =>
    simp -implicitDefEqProofs only [hge, List.length_map, evb0, evb1, evb2, evb3, evb4, evb5, evb6, evb7, evb8, evb9, ↓evZ2, ↓evZ3, ↓Int.cast_ofNat_Int, implies_true, ne_eq, or_false, false_or, or_self, gt_iff_lt, isMut, aFn, List.contains, List.elem, aBox, aField, aLoad, sub, aNil, aPick, aExt, aFld, gd, noJunk, plainOp, aBuildSlice, aBuild, aFill, aParts, seqParts, fitAll, List.range', ↓reduceIte, reduceCtorEq, Nat.reduceEqDiff, Nat.reduceAdd, Nat.reduceLeDiff, Nat.reduceMul, Nat.reduceLT, Nat.reduceBEq, Int.reduceEq, tf_L1_25]
  obtain ⟨n, t⟩ := x
  have hw := wrap64 (n := (i : Int) + 1) (by omega) (by omega)
  have hat := ev_at (av := bdAv) eI_44 hx (bdAv_width _)
  have hbd : bdAv (n, t) = .agg (.int .i64 n :: t.av.cells) := rfl
  simp -implicitDefEqProofs only [hlt', List.length_map, hat, hbd, bdAv_width, Tm.av_agg, Tm.av_width, take_all (Tm.av_cells _), agg_cells (Tm.av_agg _), Tm.av_cells, Nat.le_refl, hw, evb0, evb1, evb2, evb3, evb4, evb5, evb6, evb7, evb8, evb9, ↓evZ2, ↓evZ3, ↓Int.cast_ofNat_Int, implies_true, ne_eq, or_false, false_or, or_self, gt_iff_lt, isMut, aFn, List.contains, List.elem, aBox, aField, aLoad, sub, aNil, aPick, aExt, aFld, gd, noJunk, plainOp, aBuildSlice, aBuild, aFill, aParts, seqParts, fitAll, List.range', ↓reduceIte, reduceCtorEq, Nat.reduceEqDiff, Nat.reduceAdd, Nat.reduceLeDiff, Nat.reduceMul, Nat.reduceLT, Nat.reduceBEq, Int.reduceEq, tf_L1_25]
  refine arun_planX [(0, 1), (1, 1), (2, 1), (3, 1), (4, 1), (5, 1), (6, 1), (7, 1), (8, 1), (9, 1), (10, 1), (11, 1), (12, 1), (13, 1), (14, 1), (15, 1), (16, 1), (17, 1), (18, 1), (19, 1), (20, 1), (21, 1), (22, 0), (23, 1), (24, 1)] [0, 1, 2, 3, 4, 5, 6, 7, 8, 9, 10, 11, 12, 13, 14, 15, 16, 17, 18, 19, 20, 21, 23, 24] none0' mixed (by decide +kernel) (by decide +kernel) (by decide +kernel) rfl ext_none ?_
  simp -implicitDefEqProofs only [decide_true, beq_self_eq_true, List.length_map, hat, hbd, bdAv_width, Tm.av_agg, Tm.av_width, take_all (Tm.av_cells _), agg_cells (Tm.av_agg _), Tm.av_cells, Nat.le_refl, hw, evb0, evb1, evb2, evb3, evb4, evb5, evb6, evb7, evb8, evb9, ↓evZ2, ↓evZ3, ↓Int.cast_ofNat_Int, implies_true, ne_eq, or_false, false_or, or_self, gt_iff_lt, isMut, aFn, List.contains, List.elem, aBox, aField, aLoad, sub, aNil, aPick, aExt, aFld, gd, noJunk, plainOp, aBuildSlice, aBuild, aFill, aParts, seqParts, fitAll, List.range', ↓reduceIte, reduceCtorEq, Nat.reduceEqDiff, Nat.reduceAdd, Nat.reduceLeDiff, Nat.reduceMul, Nat.reduceLT, Nat.reduceBEq, Int.reduceEq, tf_L1_25]
  refine (c_impl_TermSame t t _).to ?_
  rw [tm_same_refl]
  simp -implicitDefEqProofs only [List.length_map, hat, hbd, bdAv_width, Tm.av_agg, Tm.av_width, take_all (Tm.av_cells _), agg_cells (Tm.av_agg _), Tm.av_cells, Nat.le_refl, hw, evb0, evb1, evb2, evb3, evb4, evb5, evb6, evb7, evb8, evb9, ↓evZ2, ↓evZ3, ↓Int.cast_ofNat_Int, implies_true, ne_eq, or_false, false_or, or_self, gt_iff_lt, isMut, aFn, List.contains, List.elem, aBox, aField, aLoad, sub, aNil, aPick, aExt, aFld, gd, noJunk, plainOp, aBuildSlice, aBuild, aFill, aParts, seqParts, fitAll, List.range', ↓reduceIte, reduceCtorEq, Nat.reduceEqDiff, Nat.reduceAdd, Nat.reduceLeDiff, Nat.reduceMul, Nat.reduceLT, Nat.reduceBEq, Int.reduceEq, tf_L1_25]
  refine ⟨ext_none, ?_⟩
  exact ⟨(), LessL.mk (by simp -implicitDefEqProofs only [List.length_map, hat, hbd, bdAv_width, Tm.av_agg, Tm.av_width, take_all (Tm.av_cells _), agg_cells (Tm.av_agg _), Tm.av_cells, Nat.le_refl, hw, evb0, evb1, evb2, evb3, evb4, evb5, evb6, evb7, evb8, evb9, ↓evZ2, ↓evZ3, ↓Int.cast_ofNat_Int, implies_true, ne_eq, or_false, false_or, or_self, gt_iff_lt, isMut, aFn, List.contains, List.elem, aBox, aField, aLoad, sub, aNil, aPick, aExt, aFld, gd, noJunk, plainOp, aBuildSlice, aBuild, aFill, aParts, seqParts, fitAll, List.range', ↓reduceIte, reduceCtorEq, Nat.reduceEqDiff, Nat.reduceAdd, Nat.reduceLeDiff, Nat.reduceMul, Nat.reduceLT, Nat.reduceBEq, Int.reduceEq, tf_L1_25])⟩
theorem zero_cells : (Value.agg #[Value.int IntKind.i64 0, Value.int IntKind.i64 0, Value.string ⟨#[]⟩, Value.slice none 0 0]).cells.toList.map ofConst = [.int .i64 0, .int .i64 0, .str ⟨#[]⟩, .fslice []] := rfl
end Go.AW

/- Unification by arguments: plain facts. -/
namespace Go.AW
set_option linter.unusedSimpArgs false
set_option linter.unusedVariables false

def pr (x y : Tm) : Tm := .mk 3 0 ⟨#[46]⟩ [x, y]
def nilT : Tm := .mk 3 0 ⟨#[91, 93]⟩ []
def chainT (l : List Tm) (t : Tm) : Tm := l.foldr pr t
theorem chainT_cons (x : Tm) (l : List Tm) (t : Tm) : chainT (x :: l) t = pr x (chainT l t) := rfl
theorem chainT_k (l : List Tm) : (chainT l nilT).k = 3 := by cases l <;> rfl
theorem wk_k {σ : Sub} {t : Tm} (h : t.k ≠ 1) : wk σ t = t := (WkN.stop (σ := σ) (fun hk => absurd hk h)).wk
theorem uniF_same {g : Nat} {σ : Sub} {a b : Tm} (ha : a.k ≠ 1) (hb : b.k ≠ 1) : uniF (g + 1) σ a b = if headEq a b = true then unisF g σ a.ts b.ts else some (false, σ, []) := by
  rw [uniF, wk_k ha, wk_k hb, if_neg (fun h => ha h.1), if_neg ha, if_neg hb]
theorem unis_chain : ∀ (xs ys : List Tm) (g : Nat) (σ : Sub) (z : Bool × Sub × List Int), xs.length = ys.length → unisF g σ xs ys = some z → uniF (g + xs.length + 1) σ (chainT xs nilT) (chainT ys nilT) = some z
  | [], [], g, σ, z, _, h => by
    rw [uniF_same (by decide) (by decide), if_pos (headEq_iff.2 ⟨rfl, rfl, rfl, rfl⟩)]
    exact h
  | [], _ :: _, _, _, _, hl, _ => by simp at hl
  | _ :: _, [], _, _, _, hl, _ => by simp at hl
  | x :: xs, y :: ys, g, σ, z, hl, h => by
    have ih := fun σ1 z => unis_chain xs ys g σ1 z (by simpa using hl)
    rw [uniF_same (by rw [chainT_k]; decide) (by rw [chainT_k]; decide), if_pos (show headEq (chainT (x :: xs) nilT) (chainT (y :: ys) nilT) = true from headEq_iff.2 ⟨rfl, rfl, rfl, rfl⟩)]
    show unisF (g + (xs.length + 1)) σ [x, chainT xs nilT] [y, chainT ys nilT] = some z
    rw [unisF] at h ⊢
    cases h1 : uniF g σ x y with
    | none => rw [h1] at h; cases h
    | some p =>
      obtain ⟨r1, σ1, tr1⟩ := p
      rw [h1] at h
      rw [uniF_le (show g ≤ g + (xs.length + 1) by omega) h1]
      cases r1 with
      | false => exact h
      | true =>
        simp only at h ⊢
        cases h2 : unisF g σ1 xs ys with
        | none => rw [h2] at h; cases h
        | some p2 =>
          obtain ⟨r2, σ2, tr2⟩ := p2
          rw [h2] at h
          simp only [Option.some.injEq] at h
          subst h
          have h3 := ih σ1 _ h2
          rw [unisF, show g + (xs.length + 1) = g + xs.length + 1 by omega, h3]
          cases r2 with
          | false => rfl
          | true => simp only [unisF, List.append_nil]
theorem mapv_chain (R : Int → Tm) : ∀ l : List Tm, (chainT l nilT).mapv R = chainT (l.map (Tm.mapv R)) nilT
  | [] => by rw [chainT]; exact Tm.mapv_mk R (by decide)
  | x :: l => by rw [chainT_cons, pr, Tm.mapv_mk R (by decide), List.map_cons, List.map_cons, List.map_nil, mapv_chain R l]; rfl
theorem chain_len : ∀ (l m : List Tm), chainT l nilT = chainT m nilT → l.length = m.length
  | [], [], _ => rfl
  | [], y :: m, h => by simp [chainT, nilT, pr] at h
  | x :: l, [], h => by simp [chainT, nilT, pr] at h
  | x :: l, y :: m, h => by
    have h' : pr x (chainT l nilT) = pr y (chainT m nilT) := h
    unfold pr at h'
    injection h' with _ _ _ h4
    injection h4 with _ h5
    injection h5 with h6 _
    simp [chain_len l m h6]
theorem uniB_parts {a b : Tm} (ha : a.valid = true) (hb : b.valid = true) (ka : a.k = 3) (kb : b.k = 3) (hs : a.s = b.s) (hx : (chainT a.ts nilT).valid = true) (hy : (chainT b.ts nilT).valid = true) :
    uniB (chainT a.ts nilT) (chainT b.ts nilT) = uniB a b := by
  have hn : ∀ t : Tm, t.valid = true → t.k = 3 → t.n = 0 := fun t ht hk => by
    have := Tm.valid_okA ht
    cases t
    obtain ⟨h1, _⟩ := Tm.okA_own this
    simp only [Tm.k] at hk
    subst hk
    simp [ownOk] at h1
    exact h1.1.1
  obtain ⟨r, σ, tr, hU, hR⟩ := unif_of ha hb
  obtain ⟨r', σ', tr', hU', hR'⟩ := unif_of hx hy
  have ka1 : a.k ≠ 1 := by rw [ka]; decide
  have kb1 : b.k ≠ 1 := by rw [kb]; decide
  by_cases hl : a.ts.length = b.ts.length
  · have hh : headEq a b = true := headEq_iff.2 ⟨by rw [ka, kb], by rw [hn a ha ka, hn b hb kb], hs, hl⟩
    obtain ⟨g, hg⟩ := hU.run
    cases g with
    | zero => simp only [uniF] at hg; cases hg
    | succ g =>
      rw [uniF_same ka1 kb1, if_pos hh] at hg
      have := uniR_eq (unis_chain a.ts b.ts g Sub.none _ hl hg)
      unfold uniB
      rw [this, hR]
      simp only [ha, hb, hx, hy]
  · have hh : ¬ headEq a b = true := fun h => hl (headEq_iff.1 h).2.2.2
    have h1 : uniR a b = (false, Sub.none, []) := uniR_eq (g := 1) (by rw [uniF_same ka1 kb1, if_neg hh])
    have h2 : r' = false := by
      cases hr : r' with
      | false => rfl
      | true =>
        have := hU'.uni.eq hr
        simp only [List.map_cons, List.map_nil, List.cons.injEq, and_true] at this
        rw [mapv_chain, mapv_chain] at this
        have := chain_len _ _ this
        simp at this
        exact absurd this hl
    unfold uniB
    rw [h1, hR', h2]
    simp
end Go.AW


/- Unification by arguments: lists that are made, the law. -/
namespace Go.AW
open Go.Proofs.Try
set_option linter.unusedSimpArgs false
set_option maxRecDepth 100000

theorem tf_L2_129 : (type_of% tI_2) ∧ (type_of% zI_2) ∧ (type_of% Go.Proofs.Try.underlying2) ∧ (type_of% tI_3) ∧ (type_of% zI_3) ∧ (type_of% Go.Proofs.Try.underlying3) ∧ (type_of% tI_4) ∧ (type_of% zI_4) ∧ (type_of% Go.Proofs.Try.underlying4) ∧ (type_of% tI_9) ∧ (type_of% zI_9) ∧ (type_of% Go.Proofs.Try.underlying9) ∧ (type_of% tI_27) ∧ (type_of% zI_27) ∧ (type_of% eI_27) ∧ (type_of% eB_27) ∧ (type_of% eZ_27) ∧ (type_of% Go.Proofs.Try.underlying27) ∧ (type_of% tI_41) ∧ (type_of% zI_41) ∧ (type_of% fI_41_0) ∧ (type_of% fI_41_1) ∧ (type_of% fI_41_2) ∧ (type_of% fI_41_3) ∧ (type_of% bI_41) ∧ (type_of% tI_64) ∧ (type_of% zI_64) ∧ (type_of% fI_64_0) ∧ (type_of% fI_64_1) ∧ (type_of% bI_64) := ⟨tI_2, zI_2, Go.Proofs.Try.underlying2, tI_3, zI_3, Go.Proofs.Try.underlying3, tI_4, zI_4, Go.Proofs.Try.underlying4, tI_9, zI_9, Go.Proofs.Try.underlying9, tI_27, zI_27, eI_27, eB_27, eZ_27, Go.Proofs.Try.underlying27, tI_41, zI_41, fI_41_0, fI_41_1, fI_41_2, fI_41_3, bI_41, tI_64, zI_64, fI_64_0, fI_64_1, bI_64⟩
theorem c_pair (x y : Tm) (st : Store) : ACalls prog 129 [x.av, y.av] st (fun r st' => r = (pr x y).av ∧ st' = st) := by
  refine ACalls.done ?_
  refine acalls_fit [1000000] func129 ntmps129 rfl rfl (by kernel_rfl) (by decide +kernel) (by show 2 ≤ _; decide +kernel) ?_
  intro _
  simp -implicitDefEqProofs only [setCells, Tm.av_agg, Tm.av_width, Tm.av_store, Tm.av_junk, evb0, evb1, evb2, evb3, evb4, evb5, evb6, evb7, evb8, evb9, ↓evZ2, ↓evZ3, ↓Int.cast_ofNat_Int, implies_true, ne_eq, or_false, false_or, or_self, gt_iff_lt, isMut, aFn, List.contains, List.elem, aBox, aField, aLoad, sub, aNil, aPick, aExt, aFld, gd, noJunk, plainOp, aBuildSlice, aBuild, aFill, aParts, seqParts, fitAll, List.range', ↓reduceIte, reduceCtorEq, Nat.reduceEqDiff, Nat.reduceAdd, Nat.reduceLeDiff, Nat.reduceMul, Nat.reduceLT, Nat.reduceBEq, Int.reduceEq, tf_L2_129]
  intro b hb
  exact ⟨by simp only [pr, Tm.av_mk, soft_agg, soft_tup, soft_int, soft_bool, soft_str, soft_slice, soft_fslice, soft_ptr, soft_pptr, soft_map, soft_mslice, Tm.soft, List.map_cons, List.map_nil], (Drops.refl _).upd hb⟩

theorem tf_L2_76 : (type_of% tI_2) ∧ (type_of% zI_2) ∧ (type_of% Go.Proofs.Try.underlying2) ∧ (type_of% tI_3) ∧ (type_of% zI_3) ∧ (type_of% Go.Proofs.Try.underlying3) ∧ (type_of% tI_4) ∧ (type_of% zI_4) ∧ (type_of% Go.Proofs.Try.underlying4) ∧ (type_of% tI_5) ∧ (type_of% zI_5) ∧ (type_of% Go.Proofs.Try.underlying5) ∧ (type_of% tI_6) ∧ (type_of% zI_6) ∧ (type_of% Go.Proofs.Try.underlying6) ∧ (type_of% tI_7) ∧ (type_of% zI_7) ∧ (type_of% fI_7_0) ∧ (type_of% fI_7_1) ∧ (type_of% fI_7_2) ∧ (type_of% fI_7_3) ∧ (type_of% bI_7) ∧ (type_of% tI_9) ∧ (type_of% zI_9) ∧ (type_of% Go.Proofs.Try.underlying9) ∧ (type_of% tI_16) ∧ (type_of% zI_16) ∧ (type_of% tI_17) ∧ (type_of% zI_17) ∧ (type_of% tI_18) ∧ (type_of% zI_18) ∧ (type_of% fI_18_0) ∧ (type_of% bI_18) ∧ (type_of% tI_27) ∧ (type_of% zI_27) ∧ (type_of% eI_27) ∧ (type_of% eB_27) ∧ (type_of% eZ_27) ∧ (type_of% Go.Proofs.Try.underlying27) ∧ (type_of% tI_41) ∧ (type_of% zI_41) ∧ (type_of% fI_41_0) ∧ (type_of% fI_41_1) ∧ (type_of% fI_41_2) ∧ (type_of% fI_41_3) ∧ (type_of% bI_41) ∧ (type_of% tI_64) ∧ (type_of% zI_64) ∧ (type_of% fI_64_0) ∧ (type_of% fI_64_1) ∧ (type_of% bI_64) := ⟨tI_2, zI_2, Go.Proofs.Try.underlying2, tI_3, zI_3, Go.Proofs.Try.underlying3, tI_4, zI_4, Go.Proofs.Try.underlying4, tI_5, zI_5, Go.Proofs.Try.underlying5, tI_6, zI_6, Go.Proofs.Try.underlying6, tI_7, zI_7, fI_7_0, fI_7_1, fI_7_2, fI_7_3, bI_7, tI_9, zI_9, Go.Proofs.Try.underlying9, tI_16, zI_16, tI_17, zI_17, tI_18, zI_18, fI_18_0, bI_18, tI_27, zI_27, eI_27, eB_27, eZ_27, Go.Proofs.Try.underlying27, tI_41, zI_41, fI_41_0, fI_41_1, fI_41_2, fI_41_3, bI_41, tI_64, zI_64, fI_64_0, fI_64_1, bI_64⟩
theorem c_chain (l : List Tm) (t : Tm) (st : Store) : ACalls prog 76 [.slice (l.map Tm.av), t.av] st (fun r st' => r = (chainT l t).av ∧ st' = st) := by
  refine ACalls.done ?_
  refine acalls_fit [1000000, 3] func76 ntmps76 rfl rfl (by kernel_rfl) (by decide +kernel) (by show 2 ≤ _; decide +kernel) ?_
  simp only [fitsL, AV.fits, and_true, List.length_map]
  intro ⟨⟨hl, _⟩, _⟩
  have hw0 : IntKind.i64.wrap ((l.length : Int) - 1) = (l.length : Int) - 1 := wrap64 (by omega) (by omega)
  simp -implicitDefEqProofs only [setCells, Tm.av_agg, Tm.av_width, Tm.av_store, Tm.av_junk, List.length_map, hw0, Tm.av_cells, Nat.le_refl, evb0, evb1, evb2, evb3, evb4, evb5, evb6, evb7, evb8, evb9, ↓evZ2, ↓evZ3, ↓Int.cast_ofNat_Int, implies_true, ne_eq, or_false, false_or, or_self, gt_iff_lt, isMut, aFn, List.contains, List.elem, aBox, aField, aLoad, sub, aNil, aPick, aExt, aFld, gd, noJunk, plainOp, aBuildSlice, aBuild, aFill, aParts, seqParts, fitAll, List.range', ↓reduceIte, reduceCtorEq, Nat.reduceEqDiff, Nat.reduceAdd, Nat.reduceLeDiff, Nat.reduceMul, Nat.reduceLT, Nat.reduceBEq, Int.reduceEq, tf_L2_76]
  intro b3 h3 b4 h4
  have hne : b4 ≠ b3 := by rintro rfl; rw [Store.upd_same] at h4; cases h4
  have hn4 : st b4 = none := by rw [Store.upd_ne st _ hne] at h4; exact h4
  refine arun_whileK (σ := Nat) [1000000, 3] [0, 3, 4] (fun j => j ≤ l.length) (fun j => [(5, .int .i64 ((j : Int) - 1))]) (fun j => (st.upd b3 (.cells (chainT (l.drop j) t).av.cells)).upd b4 (.cells [.int .i64 0, .int .i64 0, .str ⟨#[]⟩, .fslice []])) (fun j => j) (by decide +kernel) ⟨l.length, Nat.le_refl _, ?_⟩ ?_
  · rw [List.drop_length]
    exact LessL.mk (by simp -implicitDefEqProofs only [setCells, Tm.av_agg, Tm.av_width, Tm.av_store, Tm.av_junk, List.length_map, hw0, Tm.av_cells, Nat.le_refl, evb0, evb1, evb2, evb3, evb4, evb5, evb6, evb7, evb8, evb9, ↓evZ2, ↓evZ3, ↓Int.cast_ofNat_Int, implies_true, ne_eq, or_false, false_or, or_self, gt_iff_lt, isMut, aFn, List.contains, List.elem, aBox, aField, aLoad, sub, aNil, aPick, aExt, aFld, gd, noJunk, plainOp, aBuildSlice, aBuild, aFill, aParts, seqParts, fitAll, List.range', ↓reduceIte, reduceCtorEq, Nat.reduceEqDiff, Nat.reduceAdd, Nat.reduceLeDiff, Nat.reduceMul, Nat.reduceLT, Nat.reduceBEq, Int.reduceEq, tf_L2_76])
  intro j hj
  generalize hc : chainT (l.drop j) t = u
  simp -implicitDefEqProofs only [setCells, Tm.av_agg, Tm.av_width, Tm.av_store, Tm.av_junk, List.length_map, Tm.av_cells, Nat.le_refl, hne, hne.symm, take_all (Tm.av_cells _), agg_cells (Tm.av_agg _), evb0, evb1, evb2, evb3, evb4, evb5, evb6, evb7, evb8, evb9, ↓evZ2, ↓evZ3, ↓Int.cast_ofNat_Int, implies_true, ne_eq, or_false, false_or, or_self, gt_iff_lt, isMut, aFn, List.contains, List.elem, aBox, aField, aLoad, sub, aNil, aPick, aExt, aFld, gd, noJunk, plainOp, aBuildSlice, aBuild, aFill, aParts, seqParts, fitAll, List.range', ↓reduceIte, reduceCtorEq, Nat.reduceEqDiff, Nat.reduceAdd, Nat.reduceLeDiff, Nat.reduceMul, Nat.reduceLT, Nat.reduceBEq, Int.reduceEq, tf_L2_76]
  refine cond_split (fun h => ?_) (fun h => ?_)
  · simp only [decide_eq_true_eq] at h
    obtain ⟨i, rfl⟩ : ∃ i, j = i + 1 := ⟨j - 1, by omega⟩
    obtain ⟨x, hx⟩ : ∃ x, l[i]? = some x := ⟨_, List.getElem?_eq_getElem (by omega)⟩
    have hd : l.drop i = x :: l.drop (i + 1) := by
      obtain ⟨h1, h2⟩ := List.getElem?_eq_some_iff.1 hx
      rw [List.drop_eq_getElem_cons h1, h2]
    have hij : (((i + 1 : Nat)) : Int) - 1 = (i : Int) := by omega
    have hij' : (i : Int) + 1 - 1 = (i : Int) := by omega
    have hw : IntKind.i64.wrap ((i : Int) - 1) = (i : Int) - 1 := wrap64 (by omega) (by omega)
    have hat := ev_at (av := Tm.av) eI_27 hx (Tm.av_width x)
    simp -implicitDefEqProofs only [setCells, Tm.av_agg, Tm.av_width, Tm.av_store, Tm.av_junk, List.length_map, Tm.av_cells, Nat.le_refl, hne, hne.symm, take_all (Tm.av_cells _), agg_cells (Tm.av_agg _), hat, hw, hij', evb0, evb1, evb2, evb3, evb4, evb5, evb6, evb7, evb8, evb9, ↓evZ2, ↓evZ3, ↓Int.cast_ofNat_Int, implies_true, ne_eq, or_false, false_or, or_self, gt_iff_lt, isMut, aFn, List.contains, List.elem, aBox, aField, aLoad, sub, aNil, aPick, aExt, aFld, gd, noJunk, plainOp, aBuildSlice, aBuild, aFill, aParts, seqParts, fitAll, List.range', ↓reduceIte, reduceCtorEq, Nat.reduceEqDiff, Nat.reduceAdd, Nat.reduceLeDiff, Nat.reduceMul, Nat.reduceLT, Nat.reduceBEq, Int.reduceEq, tf_L2_76]
    refine arun_plan [(0, 1), (1, 1), (2, 1), (3, 2), (4, 2), (5, 2), (6, 0)] [0, 1, 2, 3, 4, 5] mixed (by decide +kernel) (by decide +kernel) (by decide +kernel) ?_
    simp -implicitDefEqProofs only [setCells, Tm.av_agg, Tm.av_width, Tm.av_store, Tm.av_junk, List.length_map, Tm.av_cells, Nat.le_refl, hne, hne.symm, take_all (Tm.av_cells _), agg_cells (Tm.av_agg _), hat, hw, hij', evb0, evb1, evb2, evb3, evb4, evb5, evb6, evb7, evb8, evb9, ↓evZ2, ↓evZ3, ↓Int.cast_ofNat_Int, implies_true, ne_eq, or_false, false_or, or_self, gt_iff_lt, isMut, aFn, List.contains, List.elem, aBox, aField, aLoad, sub, aNil, aPick, aExt, aFld, gd, noJunk, plainOp, aBuildSlice, aBuild, aFill, aParts, seqParts, fitAll, List.range', ↓reduceIte, reduceCtorEq, Nat.reduceEqDiff, Nat.reduceAdd, Nat.reduceLeDiff, Nat.reduceMul, Nat.reduceLT, Nat.reduceBEq, Int.reduceEq, tf_L2_76]
    refine callH_mk (c_pair x u _) ?_
    simp -implicitDefEqProofs only [setCells, Tm.av_agg, Tm.av_width, Tm.av_store, Tm.av_junk, List.length_map, Tm.av_cells, Nat.le_refl, hne, hne.symm, take_all (Tm.av_cells _), agg_cells (Tm.av_agg _), hat, hw, hij', evb0, evb1, evb2, evb3, evb4, evb5, evb6, evb7, evb8, evb9, ↓evZ2, ↓evZ3, ↓Int.cast_ofNat_Int, implies_true, ne_eq, or_false, false_or, or_self, gt_iff_lt, isMut, aFn, List.contains, List.elem, aBox, aField, aLoad, sub, aNil, aPick, aExt, aFld, gd, noJunk, plainOp, aBuildSlice, aBuild, aFill, aParts, seqParts, fitAll, List.range', ↓reduceIte, reduceCtorEq, Nat.reduceEqDiff, Nat.reduceAdd, Nat.reduceLeDiff, Nat.reduceMul, Nat.reduceLT, Nat.reduceBEq, Int.reduceEq, tf_L2_76]
    rw [Store.upd_mid hne, Store.upd_comm _ _ _ hne]
    refine ⟨i, Nat.lt_succ_self _, by omega, ?_⟩
    rw [hd, chainT_cons, hc]
    exact LessL.mk (by simp -implicitDefEqProofs only [setCells, Tm.av_agg, Tm.av_width, Tm.av_store, Tm.av_junk, List.length_map, Tm.av_cells, Nat.le_refl, hne, hne.symm, take_all (Tm.av_cells _), agg_cells (Tm.av_agg _), hat, hw, hij', evb0, evb1, evb2, evb3, evb4, evb5, evb6, evb7, evb8, evb9, ↓evZ2, ↓evZ3, ↓Int.cast_ofNat_Int, implies_true, ne_eq, or_false, false_or, or_self, gt_iff_lt, isMut, aFn, List.contains, List.elem, aBox, aField, aLoad, sub, aNil, aPick, aExt, aFld, gd, noJunk, plainOp, aBuildSlice, aBuild, aFill, aParts, seqParts, fitAll, List.range', ↓reduceIte, reduceCtorEq, Nat.reduceEqDiff, Nat.reduceAdd, Nat.reduceLeDiff, Nat.reduceMul, Nat.reduceLT, Nat.reduceBEq, Int.reduceEq, tf_L2_76])
  · simp only [decide_eq_false_iff_not] at h
    obtain rfl : j = 0 := by omega
    simp -implicitDefEqProofs only [setCells, Tm.av_agg, Tm.av_width, Tm.av_store, Tm.av_junk, List.length_map, Tm.av_cells, Nat.le_refl, hne, hne.symm, take_all (Tm.av_cells _), agg_cells (Tm.av_agg _), evb0, evb1, evb2, evb3, evb4, evb5, evb6, evb7, evb8, evb9, ↓evZ2, ↓evZ3, ↓Int.cast_ofNat_Int, implies_true, ne_eq, or_false, false_or, or_self, gt_iff_lt, isMut, aFn, List.contains, List.elem, aBox, aField, aLoad, sub, aNil, aPick, aExt, aFld, gd, noJunk, plainOp, aBuildSlice, aBuild, aFill, aParts, seqParts, fitAll, List.range', ↓reduceIte, reduceCtorEq, Nat.reduceEqDiff, Nat.reduceAdd, Nat.reduceLeDiff, Nat.reduceMul, Nat.reduceLT, Nat.reduceBEq, Int.reduceEq, tf_L2_76]
    rw [List.drop_zero] at hc
    rw [← hc]
    exact ⟨Tm.soft _, ((Drops.refl _).upd h3).upd hn4⟩

def mkList (l : List Tm) (t : Tm) : Option Tm := if l.length ≤ 120 ∧ l.all Tm.valid = true ∧ t.valid = true ∧ (chainT l t).valid = true then some (chainT l t) else none
theorem chain_small {t : Tm} (ht : t.small = true) : ∀ l : List Tm, l.all Tm.valid = true → (chainT l t).small = true
  | [], _ => ht
  | x :: l, h => by
    rw [List.all_cons, Bool.and_eq_true] at h
    have h1 := chain_small ht l h.2
    have h2 := Tm.valid_small h.1
    rw [chainT_cons, pr]
    simp [Tm.small, tmsSmall, h1, h2]
theorem tf_L2_26 : (type_of% tI_2) ∧ (type_of% zI_2) ∧ (type_of% Go.Proofs.Try.underlying2) ∧ (type_of% tI_3) ∧ (type_of% zI_3) ∧ (type_of% Go.Proofs.Try.underlying3) ∧ (type_of% tI_4) ∧ (type_of% zI_4) ∧ (type_of% Go.Proofs.Try.underlying4) ∧ (type_of% tI_5) ∧ (type_of% zI_5) ∧ (type_of% Go.Proofs.Try.underlying5) ∧ (type_of% tI_6) ∧ (type_of% zI_6) ∧ (type_of% Go.Proofs.Try.underlying6) ∧ (type_of% tI_7) ∧ (type_of% zI_7) ∧ (type_of% fI_7_0) ∧ (type_of% fI_7_1) ∧ (type_of% fI_7_2) ∧ (type_of% fI_7_3) ∧ (type_of% bI_7) ∧ (type_of% tI_8) ∧ (type_of% zI_8) ∧ (type_of% fI_8_0) ∧ (type_of% fI_8_1) ∧ (type_of% fI_8_2) ∧ (type_of% fI_8_3) ∧ (type_of% bI_8) ∧ (type_of% tI_11) ∧ (type_of% zI_11) ∧ (type_of% Go.Proofs.Try.underlying11) ∧ (type_of% tI_12) ∧ (type_of% zI_12) ∧ (type_of% Go.Proofs.Try.underlying12) ∧ (type_of% tI_16) ∧ (type_of% zI_16) ∧ (type_of% tI_17) ∧ (type_of% zI_17) ∧ (type_of% tI_21) ∧ (type_of% zI_21) ∧ (type_of% Go.Proofs.Try.underlying21) ∧ (type_of% tI_22) ∧ (type_of% zI_22) ∧ (type_of% eI_22) ∧ (type_of% eB_22) ∧ (type_of% eZ_22) ∧ (type_of% Go.Proofs.Try.underlying22) ∧ (type_of% tI_23) ∧ (type_of% zI_23) ∧ (type_of% fI_23_0) ∧ (type_of% bI_23) ∧ (type_of% tI_24) ∧ (type_of% zI_24) ∧ (type_of% fI_24_0) ∧ (type_of% bI_24) ∧ (type_of% tI_27) ∧ (type_of% zI_27) ∧ (type_of% eI_27) ∧ (type_of% eB_27) ∧ (type_of% eZ_27) ∧ (type_of% Go.Proofs.Try.underlying27) ∧ (type_of% tI_41) ∧ (type_of% zI_41) ∧ (type_of% fI_41_0) ∧ (type_of% fI_41_1) ∧ (type_of% fI_41_2) ∧ (type_of% fI_41_3) ∧ (type_of% bI_41) ∧ (type_of% tI_64) ∧ (type_of% zI_64) ∧ (type_of% fI_64_0) ∧ (type_of% fI_64_1) ∧ (type_of% bI_64) ∧ (type_of% tI_75) ∧ (type_of% zI_75) ∧ (type_of% fI_75_0) ∧ (type_of% fI_75_1) ∧ (type_of% fI_75_2) ∧ (type_of% fI_75_3) ∧ (type_of% fI_75_4) ∧ (type_of% fI_75_5) ∧ (type_of% bI_75) ∧ (type_of% tI_120) ∧ (type_of% zI_120) ∧ (type_of% fI_120_0) ∧ (type_of% fI_120_1) ∧ (type_of% fI_120_2) ∧ (type_of% fI_120_3) ∧ (type_of% fI_120_4) ∧ (type_of% fI_120_5) ∧ (type_of% fI_120_6) ∧ (type_of% bI_120) := ⟨tI_2, zI_2, Go.Proofs.Try.underlying2, tI_3, zI_3, Go.Proofs.Try.underlying3, tI_4, zI_4, Go.Proofs.Try.underlying4, tI_5, zI_5, Go.Proofs.Try.underlying5, tI_6, zI_6, Go.Proofs.Try.underlying6, tI_7, zI_7, fI_7_0, fI_7_1, fI_7_2, fI_7_3, bI_7, tI_8, zI_8, fI_8_0, fI_8_1, fI_8_2, fI_8_3, bI_8, tI_11, zI_11, Go.Proofs.Try.underlying11, tI_12, zI_12, Go.Proofs.Try.underlying12, tI_16, zI_16, tI_17, zI_17, tI_21, zI_21, Go.Proofs.Try.underlying21, tI_22, zI_22, eI_22, eB_22, eZ_22, Go.Proofs.Try.underlying22, tI_23, zI_23, fI_23_0, bI_23, tI_24, zI_24, fI_24_0, bI_24, tI_27, zI_27, eI_27, eB_27, eZ_27, Go.Proofs.Try.underlying27, tI_41, zI_41, fI_41_0, fI_41_1, fI_41_2, fI_41_3, bI_41, tI_64, zI_64, fI_64_0, fI_64_1, bI_64, tI_75, zI_75, fI_75_0, fI_75_1, fI_75_2, fI_75_3, fI_75_4, fI_75_5, bI_75, tI_120, zI_120, fI_120_0, fI_120_1, fI_120_2, fI_120_3, fI_120_4, fI_120_5, fI_120_6, bI_120⟩
theorem c_MakeList (l : List Tm) (t : Tm) (st : Store) : ACalls prog 26 [.slice (l.map Tm.av), t.av] st (fun r st' => r = optAv (mkList l t) ∧ st' = st) := by
  refine ACalls.done ?_
  refine acalls_fit [1000000] func26 ntmps26 rfl rfl (by kernel_rfl) (by decide +kernel) (by show 2 ≤ _; decide +kernel) ?_
  intro _
  simp -implicitDefEqProofs only [setCells, Tm.av_agg, Tm.av_width, Tm.av_store, Tm.av_junk, List.length_map, Tm.av_cells, Nat.le_refl, take_all (Tm.av_cells _), agg_cells (Tm.av_agg _), evb0, evb1, evb2, evb3, evb4, evb5, evb6, evb7, evb8, evb9, ↓evZ2, ↓evZ3, ↓Int.cast_ofNat_Int, implies_true, ne_eq, or_false, false_or, or_self, gt_iff_lt, isMut, aFn, List.contains, List.elem, aBox, aField, aLoad, sub, aNil, aPick, aExt, aFld, gd, noJunk, plainOp, aBuildSlice, aBuild, aFill, aParts, seqParts, fitAll, List.range', ↓reduceIte, reduceCtorEq, Nat.reduceEqDiff, Nat.reduceAdd, Nat.reduceLeDiff, Nat.reduceMul, Nat.reduceLT, Nat.reduceBEq, Int.reduceEq, tf_L2_26]
  intro b hb
  have hend : ∀ o, ((AV.tup [.agg [.int .i64 0, .int .i64 0, .str ⟨#[]⟩, .fslice []], .bool false]).soft = optAv none) ∧ Drops (st.upd b o) st := fun o => ⟨by simp only [optAv, Tm.zero, Tm.av_mk, soft_agg, soft_tup, soft_int, soft_bool, soft_str, soft_slice, soft_fslice, soft_ptr, soft_pptr, soft_map, soft_mslice, Tm.soft, List.map_cons, List.map_nil], (Drops.refl _).upd hb⟩
  refine opsG_split (fun h => ?_) (fun h => ?_)
  case refine_2 =>
    simp -implicitDefEqProofs only [h, setCells, Tm.av_agg, Tm.av_width, Tm.av_store, Tm.av_junk, List.length_map, Tm.av_cells, Nat.le_refl, take_all (Tm.av_cells _), agg_cells (Tm.av_agg _), evb0, evb1, evb2, evb3, evb4, evb5, evb6, evb7, evb8, evb9, ↓evZ2, ↓evZ3, ↓Int.cast_ofNat_Int, implies_true, ne_eq, or_false, false_or, or_self, gt_iff_lt, isMut, aFn, List.contains, List.elem, aBox, aField, aLoad, sub, aNil, aPick, aExt, aFld, gd, noJunk, plainOp, aBuildSlice, aBuild, aFill, aParts, seqParts, fitAll, List.range', ↓reduceIte, reduceCtorEq, Nat.reduceEqDiff, Nat.reduceAdd, Nat.reduceLeDiff, Nat.reduceMul, Nat.reduceLT, Nat.reduceBEq, Int.reduceEq, tf_L2_26]
    rw [mkList, if_neg (fun h2 => by simp at h; omega)]
    exact hend _
  have h1 : l.length ≤ 120 := by simp at h; omega
  simp -implicitDefEqProofs only [h, setCells, Tm.av_agg, Tm.av_width, Tm.av_store, Tm.av_junk, List.length_map, Tm.av_cells, Nat.le_refl, take_all (Tm.av_cells _), agg_cells (Tm.av_agg _), evb0, evb1, evb2, evb3, evb4, evb5, evb6, evb7, evb8, evb9, ↓evZ2, ↓evZ3, ↓Int.cast_ofNat_Int, implies_true, ne_eq, or_false, false_or, or_self, gt_iff_lt, isMut, aFn, List.contains, List.elem, aBox, aField, aLoad, sub, aNil, aPick, aExt, aFld, gd, noJunk, plainOp, aBuildSlice, aBuild, aFill, aParts, seqParts, fitAll, List.range', ↓reduceIte, reduceCtorEq, Nat.reduceEqDiff, Nat.reduceAdd, Nat.reduceLeDiff, Nat.reduceMul, Nat.reduceLT, Nat.reduceBEq, Int.reduceEq, tf_L2_26]
  refine (c_allValid l _).to ?_
  simp -implicitDefEqProofs only [h, setCells, Tm.av_agg, Tm.av_width, Tm.av_store, Tm.av_junk, List.length_map, Tm.av_cells, Nat.le_refl, take_all (Tm.av_cells _), agg_cells (Tm.av_agg _), evb0, evb1, evb2, evb3, evb4, evb5, evb6, evb7, evb8, evb9, ↓evZ2, ↓evZ3, ↓Int.cast_ofNat_Int, implies_true, ne_eq, or_false, false_or, or_self, gt_iff_lt, isMut, aFn, List.contains, List.elem, aBox, aField, aLoad, sub, aNil, aPick, aExt, aFld, gd, noJunk, plainOp, aBuildSlice, aBuild, aFill, aParts, seqParts, fitAll, List.range', ↓reduceIte, reduceCtorEq, Nat.reduceEqDiff, Nat.reduceAdd, Nat.reduceLeDiff, Nat.reduceMul, Nat.reduceLT, Nat.reduceBEq, Int.reduceEq, tf_L2_26]
  refine opsG_split (fun h2 => ?_) (fun h2 => ?_)
  case refine_2 =>
    simp -implicitDefEqProofs only [h2, setCells, Tm.av_agg, Tm.av_width, Tm.av_store, Tm.av_junk, List.length_map, Tm.av_cells, Nat.le_refl, take_all (Tm.av_cells _), agg_cells (Tm.av_agg _), evb0, evb1, evb2, evb3, evb4, evb5, evb6, evb7, evb8, evb9, ↓evZ2, ↓evZ3, ↓Int.cast_ofNat_Int, implies_true, ne_eq, or_false, false_or, or_self, gt_iff_lt, isMut, aFn, List.contains, List.elem, aBox, aField, aLoad, sub, aNil, aPick, aExt, aFld, gd, noJunk, plainOp, aBuildSlice, aBuild, aFill, aParts, seqParts, fitAll, List.range', ↓reduceIte, reduceCtorEq, Nat.reduceEqDiff, Nat.reduceAdd, Nat.reduceLeDiff, Nat.reduceMul, Nat.reduceLT, Nat.reduceBEq, Int.reduceEq, tf_L2_26]
    rw [mkList, if_neg (fun h3 => by simp only [h3.2.1] at h2; simp at h2)]
    exact hend _
  have hv : l.all Tm.valid = true := by simpa using h2
  simp -implicitDefEqProofs only [h2, setCells, Tm.av_agg, Tm.av_width, Tm.av_store, Tm.av_junk, List.length_map, Tm.av_cells, Nat.le_refl, take_all (Tm.av_cells _), agg_cells (Tm.av_agg _), evb0, evb1, evb2, evb3, evb4, evb5, evb6, evb7, evb8, evb9, ↓evZ2, ↓evZ3, ↓Int.cast_ofNat_Int, implies_true, ne_eq, or_false, false_or, or_self, gt_iff_lt, isMut, aFn, List.contains, List.elem, aBox, aField, aLoad, sub, aNil, aPick, aExt, aFld, gd, noJunk, plainOp, aBuildSlice, aBuild, aFill, aParts, seqParts, fitAll, List.range', ↓reduceIte, reduceCtorEq, Nat.reduceEqDiff, Nat.reduceAdd, Nat.reduceLeDiff, Nat.reduceMul, Nat.reduceLT, Nat.reduceBEq, Int.reduceEq, tf_L2_26]
  refine (c_impl_TermValid t _).to ?_
  simp -implicitDefEqProofs only [h2, setCells, Tm.av_agg, Tm.av_width, Tm.av_store, Tm.av_junk, List.length_map, Tm.av_cells, Nat.le_refl, take_all (Tm.av_cells _), agg_cells (Tm.av_agg _), evb0, evb1, evb2, evb3, evb4, evb5, evb6, evb7, evb8, evb9, ↓evZ2, ↓evZ3, ↓Int.cast_ofNat_Int, implies_true, ne_eq, or_false, false_or, or_self, gt_iff_lt, isMut, aFn, List.contains, List.elem, aBox, aField, aLoad, sub, aNil, aPick, aExt, aFld, gd, noJunk, plainOp, aBuildSlice, aBuild, aFill, aParts, seqParts, fitAll, List.range', ↓reduceIte, reduceCtorEq, Nat.reduceEqDiff, Nat.reduceAdd, Nat.reduceLeDiff, Nat.reduceMul, Nat.reduceLT, Nat.reduceBEq, Int.reduceEq, tf_L2_26]
  refine cond_split (fun h3 => ?_) (fun h3 => ?_)
  · simp -implicitDefEqProofs only [setCells, Tm.av_agg, Tm.av_width, Tm.av_store, Tm.av_junk, List.length_map, Tm.av_cells, Nat.le_refl, take_all (Tm.av_cells _), agg_cells (Tm.av_agg _), evb0, evb1, evb2, evb3, evb4, evb5, evb6, evb7, evb8, evb9, ↓evZ2, ↓evZ3, ↓Int.cast_ofNat_Int, implies_true, ne_eq, or_false, false_or, or_self, gt_iff_lt, isMut, aFn, List.contains, List.elem, aBox, aField, aLoad, sub, aNil, aPick, aExt, aFld, gd, noJunk, plainOp, aBuildSlice, aBuild, aFill, aParts, seqParts, fitAll, List.range', ↓reduceIte, reduceCtorEq, Nat.reduceEqDiff, Nat.reduceAdd, Nat.reduceLeDiff, Nat.reduceMul, Nat.reduceLT, Nat.reduceBEq, Int.reduceEq, tf_L2_26]
    rw [mkList, if_neg (fun h4 => by simp only [h4.2.2.1] at h3; simp at h3)]
    exact hend _
  have ht : t.valid = true := by simpa using h3
  simp -implicitDefEqProofs only [setCells, Tm.av_agg, Tm.av_width, Tm.av_store, Tm.av_junk, List.length_map, Tm.av_cells, Nat.le_refl, take_all (Tm.av_cells _), agg_cells (Tm.av_agg _), evb0, evb1, evb2, evb3, evb4, evb5, evb6, evb7, evb8, evb9, ↓evZ2, ↓evZ3, ↓Int.cast_ofNat_Int, implies_true, ne_eq, or_false, false_or, or_self, gt_iff_lt, isMut, aFn, List.contains, List.elem, aBox, aField, aLoad, sub, aNil, aPick, aExt, aFld, gd, noJunk, plainOp, aBuildSlice, aBuild, aFill, aParts, seqParts, fitAll, List.range', ↓reduceIte, reduceCtorEq, Nat.reduceEqDiff, Nat.reduceAdd, Nat.reduceLeDiff, Nat.reduceMul, Nat.reduceLT, Nat.reduceBEq, Int.reduceEq, tf_L2_26]
  refine (c_chain l t _).to ?_
  simp -implicitDefEqProofs only [setCells, Tm.av_agg, Tm.av_width, Tm.av_store, Tm.av_junk, List.length_map, Tm.av_cells, Nat.le_refl, take_all (Tm.av_cells _), agg_cells (Tm.av_agg _), evb0, evb1, evb2, evb3, evb4, evb5, evb6, evb7, evb8, evb9, ↓evZ2, ↓evZ3, ↓Int.cast_ofNat_Int, implies_true, ne_eq, or_false, false_or, or_self, gt_iff_lt, isMut, aFn, List.contains, List.elem, aBox, aField, aLoad, sub, aNil, aPick, aExt, aFld, gd, noJunk, plainOp, aBuildSlice, aBuild, aFill, aParts, seqParts, fitAll, List.range', ↓reduceIte, reduceCtorEq, Nat.reduceEqDiff, Nat.reduceAdd, Nat.reduceLeDiff, Nat.reduceMul, Nat.reduceLT, Nat.reduceBEq, Int.reduceEq, tf_L2_26]
  refine (o_own (chainT l t) _ (chain_small (Tm.valid_small ht) l hv)).made.to ?_
  simp -implicitDefEqProofs only [setCells, Tm.av_agg, Tm.av_width, Tm.av_store, Tm.av_junk, List.length_map, Tm.av_cells, Nat.le_refl, take_all (Tm.av_cells _), agg_cells (Tm.av_agg _), evb0, evb1, evb2, evb3, evb4, evb5, evb6, evb7, evb8, evb9, ↓evZ2, ↓evZ3, ↓Int.cast_ofNat_Int, implies_true, ne_eq, or_false, false_or, or_self, gt_iff_lt, isMut, aFn, List.contains, List.elem, aBox, aField, aLoad, sub, aNil, aPick, aExt, aFld, gd, noJunk, plainOp, aBuildSlice, aBuild, aFill, aParts, seqParts, fitAll, List.range', ↓reduceIte, reduceCtorEq, Nat.reduceEqDiff, Nat.reduceAdd, Nat.reduceLeDiff, Nat.reduceMul, Nat.reduceLT, Nat.reduceBEq, Int.reduceEq, tf_L2_26]
  refine (c_impl_TermValid _ _).to ?_
  simp -implicitDefEqProofs only [setCells, Tm.av_agg, Tm.av_width, Tm.av_store, Tm.av_junk, List.length_map, Tm.av_cells, Nat.le_refl, take_all (Tm.av_cells _), agg_cells (Tm.av_agg _), evb0, evb1, evb2, evb3, evb4, evb5, evb6, evb7, evb8, evb9, ↓evZ2, ↓evZ3, ↓Int.cast_ofNat_Int, implies_true, ne_eq, or_false, false_or, or_self, gt_iff_lt, isMut, aFn, List.contains, List.elem, aBox, aField, aLoad, sub, aNil, aPick, aExt, aFld, gd, noJunk, plainOp, aBuildSlice, aBuild, aFill, aParts, seqParts, fitAll, List.range', ↓reduceIte, reduceCtorEq, Nat.reduceEqDiff, Nat.reduceAdd, Nat.reduceLeDiff, Nat.reduceMul, Nat.reduceLT, Nat.reduceBEq, Int.reduceEq, tf_L2_26]
  refine cond_split (fun h4 => ?_) (fun h4 => ?_)
  · simp -implicitDefEqProofs only [setCells, Tm.av_agg, Tm.av_width, Tm.av_store, Tm.av_junk, List.length_map, Tm.av_cells, Nat.le_refl, take_all (Tm.av_cells _), agg_cells (Tm.av_agg _), evb0, evb1, evb2, evb3, evb4, evb5, evb6, evb7, evb8, evb9, ↓evZ2, ↓evZ3, ↓Int.cast_ofNat_Int, implies_true, ne_eq, or_false, false_or, or_self, gt_iff_lt, isMut, aFn, List.contains, List.elem, aBox, aField, aLoad, sub, aNil, aPick, aExt, aFld, gd, noJunk, plainOp, aBuildSlice, aBuild, aFill, aParts, seqParts, fitAll, List.range', ↓reduceIte, reduceCtorEq, Nat.reduceEqDiff, Nat.reduceAdd, Nat.reduceLeDiff, Nat.reduceMul, Nat.reduceLT, Nat.reduceBEq, Int.reduceEq, tf_L2_26]
    rw [mkList, if_neg (fun h5 => by simp only [h5.2.2.2] at h4; simp at h4)]
    exact hend _
  · have h5 : (chainT l t).valid = true := by simpa using h4
    simp -implicitDefEqProofs only [setCells, Tm.av_agg, Tm.av_width, Tm.av_store, Tm.av_junk, List.length_map, Tm.av_cells, Nat.le_refl, take_all (Tm.av_cells _), agg_cells (Tm.av_agg _), evb0, evb1, evb2, evb3, evb4, evb5, evb6, evb7, evb8, evb9, ↓evZ2, ↓evZ3, ↓Int.cast_ofNat_Int, implies_true, ne_eq, or_false, false_or, or_self, gt_iff_lt, isMut, aFn, List.contains, List.elem, aBox, aField, aLoad, sub, aNil, aPick, aExt, aFld, gd, noJunk, plainOp, aBuildSlice, aBuild, aFill, aParts, seqParts, fitAll, List.range', ↓reduceIte, reduceCtorEq, Nat.reduceEqDiff, Nat.reduceAdd, Nat.reduceLeDiff, Nat.reduceMul, Nat.reduceLT, Nat.reduceBEq, Int.reduceEq, tf_L2_26]
    rw [mkList, if_pos ⟨h1, hv, ht, h5⟩]
    exact ⟨optAv_soft (some _), (Drops.refl _).upd hb⟩
theorem c_MakeListN (l : List Tm) (st : Store) : ACalls prog 26 [.slice (l.map Tm.av), .agg [.int .i64 3, .int .i64 0, .str ⟨#[91, 93]⟩, .fslice []]] st (fun r st' => r = optAv (mkList l nilT) ∧ st' = st) := by
  have := c_MakeList l nilT st
  simp only [nilT, Tm.av_mk, List.map_nil] at this
  exact ACalls.softArgs (by simp only [softL, AV.soft]; exact this)
theorem tf_L2_4 : (type_of% tI_2) ∧ (type_of% zI_2) ∧ (type_of% Go.Proofs.Try.underlying2) ∧ (type_of% tI_3) ∧ (type_of% zI_3) ∧ (type_of% Go.Proofs.Try.underlying3) ∧ (type_of% tI_4) ∧ (type_of% zI_4) ∧ (type_of% Go.Proofs.Try.underlying4) ∧ (type_of% tI_5) ∧ (type_of% zI_5) ∧ (type_of% Go.Proofs.Try.underlying5) ∧ (type_of% tI_6) ∧ (type_of% zI_6) ∧ (type_of% Go.Proofs.Try.underlying6) ∧ (type_of% tI_7) ∧ (type_of% zI_7) ∧ (type_of% fI_7_0) ∧ (type_of% fI_7_1) ∧ (type_of% fI_7_2) ∧ (type_of% fI_7_3) ∧ (type_of% bI_7) ∧ (type_of% tI_8) ∧ (type_of% zI_8) ∧ (type_of% fI_8_0) ∧ (type_of% fI_8_1) ∧ (type_of% fI_8_2) ∧ (type_of% fI_8_3) ∧ (type_of% bI_8) ∧ (type_of% tI_9) ∧ (type_of% zI_9) ∧ (type_of% Go.Proofs.Try.underlying9) ∧ (type_of% tI_10) ∧ (type_of% zI_10) ∧ (type_of% Go.Proofs.Try.underlying10) ∧ (type_of% tI_11) ∧ (type_of% zI_11) ∧ (type_of% Go.Proofs.Try.underlying11) ∧ (type_of% tI_12) ∧ (type_of% zI_12) ∧ (type_of% Go.Proofs.Try.underlying12) ∧ (type_of% tI_13) ∧ (type_of% zI_13) ∧ (type_of% fI_13_0) ∧ (type_of% fI_13_1) ∧ (type_of% bI_13) ∧ (type_of% tI_14) ∧ (type_of% zI_14) ∧ (type_of% fI_14_0) ∧ (type_of% fI_14_1) ∧ (type_of% bI_14) ∧ (type_of% tI_15) ∧ (type_of% zI_15) ∧ (type_of% tI_16) ∧ (type_of% zI_16) ∧ (type_of% tI_19) ∧ (type_of% zI_19) ∧ (type_of% fI_19_0) ∧ (type_of% bI_19) ∧ (type_of% tI_22) ∧ (type_of% zI_22) ∧ (type_of% eI_22) ∧ (type_of% eB_22) ∧ (type_of% eZ_22) ∧ (type_of% Go.Proofs.Try.underlying22) ∧ (type_of% tI_23) ∧ (type_of% zI_23) ∧ (type_of% fI_23_0) ∧ (type_of% bI_23) ∧ (type_of% tI_24) ∧ (type_of% zI_24) ∧ (type_of% fI_24_0) ∧ (type_of% bI_24) ∧ (type_of% tI_27) ∧ (type_of% zI_27) ∧ (type_of% eI_27) ∧ (type_of% eB_27) ∧ (type_of% eZ_27) ∧ (type_of% Go.Proofs.Try.underlying27) ∧ (type_of% tI_31) ∧ (type_of% zI_31) ∧ (type_of% fI_31_0) ∧ (type_of% bI_31) ∧ (type_of% tI_32) ∧ (type_of% zI_32) ∧ (type_of% fI_32_0) ∧ (type_of% bI_32) ∧ (type_of% tI_39) ∧ (type_of% zI_39) ∧ (type_of% eI_39) ∧ (type_of% eB_39) ∧ (type_of% eZ_39) ∧ (type_of% Go.Proofs.Try.underlying39) ∧ (type_of% tI_40) ∧ (type_of% zI_40) ∧ (type_of% fI_40_0) ∧ (type_of% fI_40_1) ∧ (type_of% fI_40_2) ∧ (type_of% fI_40_3) ∧ (type_of% bI_40) ∧ (type_of% tI_41) ∧ (type_of% zI_41) ∧ (type_of% fI_41_0) ∧ (type_of% fI_41_1) ∧ (type_of% fI_41_2) ∧ (type_of% fI_41_3) ∧ (type_of% bI_41) ∧ (type_of% tI_44) ∧ (type_of% zI_44) ∧ (type_of% eI_44) ∧ (type_of% eB_44) ∧ (type_of% eZ_44) ∧ (type_of% Go.Proofs.Try.underlying44) ∧ (type_of% tI_64) ∧ (type_of% zI_64) ∧ (type_of% fI_64_0) ∧ (type_of% fI_64_1) ∧ (type_of% bI_64) ∧ (type_of% tI_71) ∧ (type_of% zI_71) ∧ (type_of% eI_71) ∧ (type_of% eB_71) ∧ (type_of% eZ_71) ∧ (type_of% Go.Proofs.Try.underlying71) ∧ (type_of% tI_73) ∧ (type_of% zI_73) ∧ (type_of% eI_73) ∧ (type_of% eB_73) ∧ (type_of% eZ_73) ∧ (type_of% Go.Proofs.Try.underlying73) ∧ (type_of% tI_91) ∧ (type_of% zI_91) ∧ (type_of% fI_91_0) ∧ (type_of% fI_91_1) ∧ (type_of% fI_91_2) ∧ (type_of% fI_91_3) ∧ (type_of% bI_91) ∧ (type_of% tI_92) ∧ (type_of% zI_92) ∧ (type_of% fI_92_0) ∧ (type_of% fI_92_1) ∧ (type_of% fI_92_2) ∧ (type_of% fI_92_3) ∧ (type_of% bI_92) ∧ (type_of% tI_93) ∧ (type_of% zI_93) ∧ (type_of% eI_93) ∧ (type_of% eB_93) ∧ (type_of% eZ_93) ∧ (type_of% Go.Proofs.Try.underlying93) := ⟨tI_2, zI_2, Go.Proofs.Try.underlying2, tI_3, zI_3, Go.Proofs.Try.underlying3, tI_4, zI_4, Go.Proofs.Try.underlying4, tI_5, zI_5, Go.Proofs.Try.underlying5, tI_6, zI_6, Go.Proofs.Try.underlying6, tI_7, zI_7, fI_7_0, fI_7_1, fI_7_2, fI_7_3, bI_7, tI_8, zI_8, fI_8_0, fI_8_1, fI_8_2, fI_8_3, bI_8, tI_9, zI_9, Go.Proofs.Try.underlying9, tI_10, zI_10, Go.Proofs.Try.underlying10, tI_11, zI_11, Go.Proofs.Try.underlying11, tI_12, zI_12, Go.Proofs.Try.underlying12, tI_13, zI_13, fI_13_0, fI_13_1, bI_13, tI_14, zI_14, fI_14_0, fI_14_1, bI_14, tI_15, zI_15, tI_16, zI_16, tI_19, zI_19, fI_19_0, bI_19, tI_22, zI_22, eI_22, eB_22, eZ_22, Go.Proofs.Try.underlying22, tI_23, zI_23, fI_23_0, bI_23, tI_24, zI_24, fI_24_0, bI_24, tI_27, zI_27, eI_27, eB_27, eZ_27, Go.Proofs.Try.underlying27, tI_31, zI_31, fI_31_0, bI_31, tI_32, zI_32, fI_32_0, bI_32, tI_39, zI_39, eI_39, eB_39, eZ_39, Go.Proofs.Try.underlying39, tI_40, zI_40, fI_40_0, fI_40_1, fI_40_2, fI_40_3, bI_40, tI_41, zI_41, fI_41_0, fI_41_1, fI_41_2, fI_41_3, bI_41, tI_44, zI_44, eI_44, eB_44, eZ_44, Go.Proofs.Try.underlying44, tI_64, zI_64, fI_64_0, fI_64_1, bI_64, tI_71, zI_71, eI_71, eB_71, eZ_71, Go.Proofs.Try.underlying71, tI_73, zI_73, eI_73, eB_73, eZ_73, Go.Proofs.Try.underlying73, tI_91, zI_91, fI_91_0, fI_91_1, fI_91_2, fI_91_3, bI_91, tI_92, zI_92, fI_92_0, fI_92_1, fI_92_2, fI_92_3, bI_92, tI_93, zI_93, eI_93, eB_93, eZ_93, Go.Proofs.Try.underlying93⟩
theorem c_FnUnifyParts (code : List Bt) (st : Store) : ACalls prog 4 [.slice (code.map byteAv)] st (fun r _ => r = .bool true) := by
  refine acalls_fit [1000000] func4 ntmps4 rfl rfl (by kernel_rfl) (by decide +kernel) (by show 1 ≤ _; decide +kernel) ?_
  intro _
  simp -implicitDefEqProofs only [List.length_map, setCells, evb0, evb1, evb2, evb3, evb4, evb5, evb6, evb7, evb8, evb9, ↓evZ2, ↓evZ3, ↓Int.cast_ofNat_Int, implies_true, ne_eq, or_false, false_or, or_self, gt_iff_lt, isMut, aFn, List.contains, List.elem, aBox, aField, aLoad, sub, aNil, aPick, aExt, aFld, gd, noJunk, plainOp, aBuildSlice, aBuild, aFill, aParts, seqParts, fitAll, List.range', ↓reduceIte, reduceCtorEq, Nat.reduceEqDiff, Nat.reduceAdd, Nat.reduceLeDiff, Nat.reduceMul, Nat.reduceLT, Nat.reduceBEq, Int.reduceEq, tf_L2_4]
  refine cond_split (fun h0 => ?_) (fun h0 => ?_)
  · simp -implicitDefEqProofs only [List.length_map, setCells, evb0, evb1, evb2, evb3, evb4, evb5, evb6, evb7, evb8, evb9, ↓evZ2, ↓evZ3, ↓Int.cast_ofNat_Int, implies_true, ne_eq, or_false, false_or, or_self, gt_iff_lt, isMut, aFn, List.contains, List.elem, aBox, aField, aLoad, sub, aNil, aPick, aExt, aFld, gd, noJunk, plainOp, aBuildSlice, aBuild, aFill, aParts, seqParts, fitAll, List.range', ↓reduceIte, reduceCtorEq, Nat.reduceEqDiff, Nat.reduceAdd, Nat.reduceLeDiff, Nat.reduceMul, Nat.reduceLT, Nat.reduceBEq, Int.reduceEq, tf_L2_4]
  simp -implicitDefEqProofs only [List.length_map, setCells, evb0, evb1, evb2, evb3, evb4, evb5, evb6, evb7, evb8, evb9, ↓evZ2, ↓evZ3, ↓Int.cast_ofNat_Int, implies_true, ne_eq, or_false, false_or, or_self, gt_iff_lt, isMut, aFn, List.contains, List.elem, aBox, aField, aLoad, sub, aNil, aPick, aExt, aFld, gd, noJunk, plainOp, aBuildSlice, aBuild, aFill, aParts, seqParts, fitAll, List.range', ↓reduceIte, reduceCtorEq, Nat.reduceEqDiff, Nat.reduceAdd, Nat.reduceLeDiff, Nat.reduceMul, Nat.reduceLT, Nat.reduceBEq, Int.reduceEq, tf_L2_4]
  refine (c_DrawUnifyTerms code _).mono ?_
  rintro _ s1 ⟨⟨a, b, rfl⟩, rfl⟩
  have hci := fun s => c_impl_UnifyTerms a b s
  have hcs := fun s => c_spec_UnifyTerms a b s
  have hva := fun s => c_impl_TermValid a s
  have hvb := fun s => c_impl_TermValid b s
  have hpart := fun ha hb ka kb hs hx hy => @uniB_parts a b ha hb ka kb hs hx hy
  obtain ⟨bs, f, hbf⟩ : ∃ (bs : List Bd) (f : Bool), uniAv (uniB a b) = .tup [.slice (bs.map bdAv), .bool f] := by
    cases uniB a b with
    | none => exact ⟨[], false, rfl⟩
    | some bs => exact ⟨bs, true, rfl⟩
  rw [hbf] at hci hcs
  obtain ⟨ka, na, sa, tsa⟩ := a
  obtain ⟨kb, nb, sb', tsb⟩ := b
  simp only [Tm.av_mk] at hci hcs hva hvb
  simp only [Tm.k, Tm.s, Tm.ts] at hpart
  simp only [Tm.av_mk]
  simp -implicitDefEqProofs only [setCells, zero_cells, evb0, evb1, evb2, evb3, evb4, evb5, evb6, evb7, evb8, evb9, ↓evZ2, ↓evZ3, ↓Int.cast_ofNat_Int, implies_true, ne_eq, or_false, false_or, or_self, gt_iff_lt, isMut, aFn, List.contains, List.elem, aBox, aField, aLoad, sub, aNil, aPick, aExt, aFld, gd, noJunk, plainOp, aBuildSlice, aBuild, aFill, aParts, seqParts, fitAll, List.range', ↓reduceIte, reduceCtorEq, Nat.reduceEqDiff, Nat.reduceAdd, Nat.reduceLeDiff, Nat.reduceMul, Nat.reduceLT, Nat.reduceBEq, Int.reduceEq, tf_L2_4]
  intro b3 h3 b4 h4
  have h43 : b4 ≠ b3 := by rintro rfl; rw [Store.upd_same] at h4; cases h4
  have hn4 : s1 b4 = none := by rw [Store.upd_ne _ _ h43] at h4; exact h4
  simp -implicitDefEqProofs only [setCells, h43, h43.symm, zero_cells, evb0, evb1, evb2, evb3, evb4, evb5, evb6, evb7, evb8, evb9, ↓evZ2, ↓evZ3, ↓Int.cast_ofNat_Int, implies_true, ne_eq, or_false, false_or, or_self, gt_iff_lt, isMut, aFn, List.contains, List.elem, aBox, aField, aLoad, sub, aNil, aPick, aExt, aFld, gd, noJunk, plainOp, aBuildSlice, aBuild, aFill, aParts, seqParts, fitAll, List.range', ↓reduceIte, reduceCtorEq, Nat.reduceEqDiff, Nat.reduceAdd, Nat.reduceLeDiff, Nat.reduceMul, Nat.reduceLT, Nat.reduceBEq, Int.reduceEq, tf_L2_4]
  refine (hci _).to ?_
  simp -implicitDefEqProofs only [setCells, h43, h43.symm, zero_cells, evb0, evb1, evb2, evb3, evb4, evb5, evb6, evb7, evb8, evb9, ↓evZ2, ↓evZ3, ↓Int.cast_ofNat_Int, implies_true, ne_eq, or_false, false_or, or_self, gt_iff_lt, isMut, aFn, List.contains, List.elem, aBox, aField, aLoad, sub, aNil, aPick, aExt, aFld, gd, noJunk, plainOp, aBuildSlice, aBuild, aFill, aParts, seqParts, fitAll, List.range', ↓reduceIte, reduceCtorEq, Nat.reduceEqDiff, Nat.reduceAdd, Nat.reduceLeDiff, Nat.reduceMul, Nat.reduceLT, Nat.reduceBEq, Int.reduceEq, tf_L2_4]
  refine (hcs _).to ?_
  simp -implicitDefEqProofs only [beq_self_eq_true, setCells, h43, h43.symm, zero_cells, evb0, evb1, evb2, evb3, evb4, evb5, evb6, evb7, evb8, evb9, ↓evZ2, ↓evZ3, ↓Int.cast_ofNat_Int, implies_true, ne_eq, or_false, false_or, or_self, gt_iff_lt, isMut, aFn, List.contains, List.elem, aBox, aField, aLoad, sub, aNil, aPick, aExt, aFld, gd, noJunk, plainOp, aBuildSlice, aBuild, aFill, aParts, seqParts, fitAll, List.range', ↓reduceIte, reduceCtorEq, Nat.reduceEqDiff, Nat.reduceAdd, Nat.reduceLeDiff, Nat.reduceMul, Nat.reduceLT, Nat.reduceBEq, Int.reduceEq, tf_L2_4]
  refine (c_pgBinds bs _).to ?_
  by_cases hk1 : ka = 3
  case neg =>
    simp -implicitDefEqProofs only [hk1, beq_self_eq_true, decide_true, decide_false, setCells, h43, h43.symm, zero_cells, evb0, evb1, evb2, evb3, evb4, evb5, evb6, evb7, evb8, evb9, ↓evZ2, ↓evZ3, ↓Int.cast_ofNat_Int, implies_true, ne_eq, or_false, false_or, or_self, gt_iff_lt, isMut, aFn, List.contains, List.elem, aBox, aField, aLoad, sub, aNil, aPick, aExt, aFld, gd, noJunk, plainOp, aBuildSlice, aBuild, aFill, aParts, seqParts, fitAll, List.range', ↓reduceIte, reduceCtorEq, Nat.reduceEqDiff, Nat.reduceAdd, Nat.reduceLeDiff, Nat.reduceMul, Nat.reduceLT, Nat.reduceBEq, Int.reduceEq, tf_L2_4]
    refine (c_pgBinds bs _).to ?_
    simp -implicitDefEqProofs only [beq_self_eq_true, setCells, h43, h43.symm, zero_cells, evb0, evb1, evb2, evb3, evb4, evb5, evb6, evb7, evb8, evb9, ↓evZ2, ↓evZ3, ↓Int.cast_ofNat_Int, implies_true, ne_eq, or_false, false_or, or_self, gt_iff_lt, isMut, aFn, List.contains, List.elem, aBox, aField, aLoad, sub, aNil, aPick, aExt, aFld, gd, noJunk, plainOp, aBuildSlice, aBuild, aFill, aParts, seqParts, fitAll, List.range', ↓reduceIte, reduceCtorEq, Nat.reduceEqDiff, Nat.reduceAdd, Nat.reduceLeDiff, Nat.reduceMul, Nat.reduceLT, Nat.reduceBEq, Int.reduceEq, tf_L2_4]
  by_cases hk2 : kb = 3
  case neg =>
    subst hk1
    simp -implicitDefEqProofs only [hk2, beq_self_eq_true, decide_true, decide_false, setCells, h43, h43.symm, zero_cells, evb0, evb1, evb2, evb3, evb4, evb5, evb6, evb7, evb8, evb9, ↓evZ2, ↓evZ3, ↓Int.cast_ofNat_Int, implies_true, ne_eq, or_false, false_or, or_self, gt_iff_lt, isMut, aFn, List.contains, List.elem, aBox, aField, aLoad, sub, aNil, aPick, aExt, aFld, gd, noJunk, plainOp, aBuildSlice, aBuild, aFill, aParts, seqParts, fitAll, List.range', ↓reduceIte, reduceCtorEq, Nat.reduceEqDiff, Nat.reduceAdd, Nat.reduceLeDiff, Nat.reduceMul, Nat.reduceLT, Nat.reduceBEq, Int.reduceEq, tf_L2_4]
    refine (c_pgBinds bs _).to ?_
    simp -implicitDefEqProofs only [beq_self_eq_true, setCells, h43, h43.symm, zero_cells, evb0, evb1, evb2, evb3, evb4, evb5, evb6, evb7, evb8, evb9, ↓evZ2, ↓evZ3, ↓Int.cast_ofNat_Int, implies_true, ne_eq, or_false, false_or, or_self, gt_iff_lt, isMut, aFn, List.contains, List.elem, aBox, aField, aLoad, sub, aNil, aPick, aExt, aFld, gd, noJunk, plainOp, aBuildSlice, aBuild, aFill, aParts, seqParts, fitAll, List.range', ↓reduceIte, reduceCtorEq, Nat.reduceEqDiff, Nat.reduceAdd, Nat.reduceLeDiff, Nat.reduceMul, Nat.reduceLT, Nat.reduceBEq, Int.reduceEq, tf_L2_4]
  by_cases hs : sa = sb'
  case neg =>
    subst hk1 hk2
    simp -implicitDefEqProofs only [hs, beq_self_eq_true, decide_true, decide_false, setCells, h43, h43.symm, zero_cells, evb0, evb1, evb2, evb3, evb4, evb5, evb6, evb7, evb8, evb9, ↓evZ2, ↓evZ3, ↓Int.cast_ofNat_Int, implies_true, ne_eq, or_false, false_or, or_self, gt_iff_lt, isMut, aFn, List.contains, List.elem, aBox, aField, aLoad, sub, aNil, aPick, aExt, aFld, gd, noJunk, plainOp, aBuildSlice, aBuild, aFill, aParts, seqParts, fitAll, List.range', ↓reduceIte, reduceCtorEq, Nat.reduceEqDiff, Nat.reduceAdd, Nat.reduceLeDiff, Nat.reduceMul, Nat.reduceLT, Nat.reduceBEq, Int.reduceEq, tf_L2_4]
    refine (c_pgBinds bs _).to ?_
    simp -implicitDefEqProofs only [beq_self_eq_true, setCells, h43, h43.symm, zero_cells, evb0, evb1, evb2, evb3, evb4, evb5, evb6, evb7, evb8, evb9, ↓evZ2, ↓evZ3, ↓Int.cast_ofNat_Int, implies_true, ne_eq, or_false, false_or, or_self, gt_iff_lt, isMut, aFn, List.contains, List.elem, aBox, aField, aLoad, sub, aNil, aPick, aExt, aFld, gd, noJunk, plainOp, aBuildSlice, aBuild, aFill, aParts, seqParts, fitAll, List.range', ↓reduceIte, reduceCtorEq, Nat.reduceEqDiff, Nat.reduceAdd, Nat.reduceLeDiff, Nat.reduceMul, Nat.reduceLT, Nat.reduceBEq, Int.reduceEq, tf_L2_4]
  subst hk1 hk2 hs
  simp -implicitDefEqProofs only [beq_self_eq_true, decide_true, decide_false, setCells, h43, h43.symm, zero_cells, evb0, evb1, evb2, evb3, evb4, evb5, evb6, evb7, evb8, evb9, ↓evZ2, ↓evZ3, ↓Int.cast_ofNat_Int, implies_true, ne_eq, or_false, false_or, or_self, gt_iff_lt, isMut, aFn, List.contains, List.elem, aBox, aField, aLoad, sub, aNil, aPick, aExt, aFld, gd, noJunk, plainOp, aBuildSlice, aBuild, aFill, aParts, seqParts, fitAll, List.range', ↓reduceIte, reduceCtorEq, Nat.reduceEqDiff, Nat.reduceAdd, Nat.reduceLeDiff, Nat.reduceMul, Nat.reduceLT, Nat.reduceBEq, Int.reduceEq, tf_L2_4]
  have hma := fun s => c_MakeListN tsa s
  have hmb := fun s => c_MakeListN tsb s
  cases hx : mkList tsa nilT with
  | none =>
    rw [hx, optAv] at hma
    refine (hma _).to ?_
    simp -implicitDefEqProofs only [setCells, h43, h43.symm, zero_cells, evb0, evb1, evb2, evb3, evb4, evb5, evb6, evb7, evb8, evb9, ↓evZ2, ↓evZ3, ↓Int.cast_ofNat_Int, implies_true, ne_eq, or_false, false_or, or_self, gt_iff_lt, isMut, aFn, List.contains, List.elem, aBox, aField, aLoad, sub, aNil, aPick, aExt, aFld, gd, noJunk, plainOp, aBuildSlice, aBuild, aFill, aParts, seqParts, fitAll, List.range', ↓reduceIte, reduceCtorEq, Nat.reduceEqDiff, Nat.reduceAdd, Nat.reduceLeDiff, Nat.reduceMul, Nat.reduceLT, Nat.reduceBEq, Int.reduceEq, tf_L2_4]
    cases hy : mkList tsb nilT with
    | none =>
      rw [hy, optAv] at hmb
      refine (hmb _).to ?_
      simp -implicitDefEqProofs only [Tm.av_agg, Tm.av_width, Tm.av_store, Tm.av_junk, Tm.av_cells, setCells, h43, h43.symm, zero_cells, evb0, evb1, evb2, evb3, evb4, evb5, evb6, evb7, evb8, evb9, ↓evZ2, ↓evZ3, ↓Int.cast_ofNat_Int, implies_true, ne_eq, or_false, false_or, or_self, gt_iff_lt, isMut, aFn, List.contains, List.elem, aBox, aField, aLoad, sub, aNil, aPick, aExt, aFld, gd, noJunk, plainOp, aBuildSlice, aBuild, aFill, aParts, seqParts, fitAll, List.range', ↓reduceIte, reduceCtorEq, Nat.reduceEqDiff, Nat.reduceAdd, Nat.reduceLeDiff, Nat.reduceMul, Nat.reduceLT, Nat.reduceBEq, Int.reduceEq, tf_L2_4]
    | some y =>
      rw [hy, optAv] at hmb
      refine (hmb _).to ?_
      simp -implicitDefEqProofs only [Tm.av_agg, Tm.av_width, Tm.av_store, Tm.av_junk, Tm.av_cells, setCells, h43, h43.symm, zero_cells, evb0, evb1, evb2, evb3, evb4, evb5, evb6, evb7, evb8, evb9, ↓evZ2, ↓evZ3, ↓Int.cast_ofNat_Int, implies_true, ne_eq, or_false, false_or, or_self, gt_iff_lt, isMut, aFn, List.contains, List.elem, aBox, aField, aLoad, sub, aNil, aPick, aExt, aFld, gd, noJunk, plainOp, aBuildSlice, aBuild, aFill, aParts, seqParts, fitAll, List.range', ↓reduceIte, reduceCtorEq, Nat.reduceEqDiff, Nat.reduceAdd, Nat.reduceLeDiff, Nat.reduceMul, Nat.reduceLT, Nat.reduceBEq, Int.reduceEq, tf_L2_4]
  | some x =>
    rw [hx, optAv] at hma
    refine (hma _).to ?_
    simp -implicitDefEqProofs only [Tm.av_agg, Tm.av_width, Tm.av_store, Tm.av_junk, Tm.av_cells, setCells, h43, h43.symm, zero_cells, evb0, evb1, evb2, evb3, evb4, evb5, evb6, evb7, evb8, evb9, ↓evZ2, ↓evZ3, ↓Int.cast_ofNat_Int, implies_true, ne_eq, or_false, false_or, or_self, gt_iff_lt, isMut, aFn, List.contains, List.elem, aBox, aField, aLoad, sub, aNil, aPick, aExt, aFld, gd, noJunk, plainOp, aBuildSlice, aBuild, aFill, aParts, seqParts, fitAll, List.range', ↓reduceIte, reduceCtorEq, Nat.reduceEqDiff, Nat.reduceAdd, Nat.reduceLeDiff, Nat.reduceMul, Nat.reduceLT, Nat.reduceBEq, Int.reduceEq, tf_L2_4]
    cases hy : mkList tsb nilT with
    | none =>
      rw [hy, optAv] at hmb
      refine (hmb _).to ?_
      simp -implicitDefEqProofs only [Tm.av_agg, Tm.av_width, Tm.av_store, Tm.av_junk, Tm.av_cells, setCells, h43, h43.symm, zero_cells, evb0, evb1, evb2, evb3, evb4, evb5, evb6, evb7, evb8, evb9, ↓evZ2, ↓evZ3, ↓Int.cast_ofNat_Int, implies_true, ne_eq, or_false, false_or, or_self, gt_iff_lt, isMut, aFn, List.contains, List.elem, aBox, aField, aLoad, sub, aNil, aPick, aExt, aFld, gd, noJunk, plainOp, aBuildSlice, aBuild, aFill, aParts, seqParts, fitAll, List.range', ↓reduceIte, reduceCtorEq, Nat.reduceEqDiff, Nat.reduceAdd, Nat.reduceLeDiff, Nat.reduceMul, Nat.reduceLT, Nat.reduceBEq, Int.reduceEq, tf_L2_4]
    | some y =>
      rw [hy, optAv] at hmb
      refine (hmb _).to ?_
      simp -implicitDefEqProofs only [Tm.av_agg, Tm.av_width, Tm.av_store, Tm.av_junk, Tm.av_cells, setCells, h43, h43.symm, zero_cells, evb0, evb1, evb2, evb3, evb4, evb5, evb6, evb7, evb8, evb9, ↓evZ2, ↓evZ3, ↓Int.cast_ofNat_Int, implies_true, ne_eq, or_false, false_or, or_self, gt_iff_lt, isMut, aFn, List.contains, List.elem, aBox, aField, aLoad, sub, aNil, aPick, aExt, aFld, gd, noJunk, plainOp, aBuildSlice, aBuild, aFill, aParts, seqParts, fitAll, List.range', ↓reduceIte, reduceCtorEq, Nat.reduceEqDiff, Nat.reduceAdd, Nat.reduceLeDiff, Nat.reduceMul, Nat.reduceLT, Nat.reduceBEq, Int.reduceEq, tf_L2_4]
      have hxe : x = chainT tsa nilT ∧ x.valid = true := by
        unfold mkList at hx
        split at hx
        · rename_i h; cases hx; exact ⟨rfl, h.2.2.2⟩
        · cases hx
      have hye : y = chainT tsb nilT ∧ y.valid = true := by
        unfold mkList at hy
        split at hy
        · rename_i h; cases hy; exact ⟨rfl, h.2.2.2⟩
        · cases hy
      have hcu := fun s => c_impl_UnifyTerms x y s
      cases hA : (Tm.mk 3 na sa tsa).valid with
      | false =>
        rw [hA] at hva
        obtain ⟨bs', f', hbf'⟩ : ∃ (bs : List Bd) (f : Bool), uniAv (uniB x y) = .tup [.slice (bs.map bdAv), .bool f] := by
          cases uniB x y with
          | none => exact ⟨[], false, rfl⟩
          | some bs => exact ⟨bs, true, rfl⟩
        rw [hbf'] at hcu
        refine (hcu _).to ?_
        simp -implicitDefEqProofs only [setCells, h43, h43.symm, zero_cells, evb0, evb1, evb2, evb3, evb4, evb5, evb6, evb7, evb8, evb9, ↓evZ2, ↓evZ3, ↓Int.cast_ofNat_Int, implies_true, ne_eq, or_false, false_or, or_self, gt_iff_lt, isMut, aFn, List.contains, List.elem, aBox, aField, aLoad, sub, aNil, aPick, aExt, aFld, gd, noJunk, plainOp, aBuildSlice, aBuild, aFill, aParts, seqParts, fitAll, List.range', ↓reduceIte, reduceCtorEq, Nat.reduceEqDiff, Nat.reduceAdd, Nat.reduceLeDiff, Nat.reduceMul, Nat.reduceLT, Nat.reduceBEq, Int.reduceEq, tf_L2_4]
        refine (hva _).to ?_
        simp -implicitDefEqProofs only [setCells, h43, h43.symm, zero_cells, evb0, evb1, evb2, evb3, evb4, evb5, evb6, evb7, evb8, evb9, ↓evZ2, ↓evZ3, ↓Int.cast_ofNat_Int, implies_true, ne_eq, or_false, false_or, or_self, gt_iff_lt, isMut, aFn, List.contains, List.elem, aBox, aField, aLoad, sub, aNil, aPick, aExt, aFld, gd, noJunk, plainOp, aBuildSlice, aBuild, aFill, aParts, seqParts, fitAll, List.range', ↓reduceIte, reduceCtorEq, Nat.reduceEqDiff, Nat.reduceAdd, Nat.reduceLeDiff, Nat.reduceMul, Nat.reduceLT, Nat.reduceBEq, Int.reduceEq, tf_L2_4]
      | true =>
        rw [hA] at hva
        cases hB : (Tm.mk 3 nb sa tsb).valid with
        | false =>
          rw [hB] at hvb
          obtain ⟨bs', f', hbf'⟩ : ∃ (bs : List Bd) (f : Bool), uniAv (uniB x y) = .tup [.slice (bs.map bdAv), .bool f] := by
            cases uniB x y with
            | none => exact ⟨[], false, rfl⟩
            | some bs => exact ⟨bs, true, rfl⟩
          rw [hbf'] at hcu
          refine (hcu _).to ?_
          simp -implicitDefEqProofs only [setCells, h43, h43.symm, zero_cells, evb0, evb1, evb2, evb3, evb4, evb5, evb6, evb7, evb8, evb9, ↓evZ2, ↓evZ3, ↓Int.cast_ofNat_Int, implies_true, ne_eq, or_false, false_or, or_self, gt_iff_lt, isMut, aFn, List.contains, List.elem, aBox, aField, aLoad, sub, aNil, aPick, aExt, aFld, gd, noJunk, plainOp, aBuildSlice, aBuild, aFill, aParts, seqParts, fitAll, List.range', ↓reduceIte, reduceCtorEq, Nat.reduceEqDiff, Nat.reduceAdd, Nat.reduceLeDiff, Nat.reduceMul, Nat.reduceLT, Nat.reduceBEq, Int.reduceEq, tf_L2_4]
          refine (hva _).to ?_
          simp -implicitDefEqProofs only [setCells, h43, h43.symm, zero_cells, evb0, evb1, evb2, evb3, evb4, evb5, evb6, evb7, evb8, evb9, ↓evZ2, ↓evZ3, ↓Int.cast_ofNat_Int, implies_true, ne_eq, or_false, false_or, or_self, gt_iff_lt, isMut, aFn, List.contains, List.elem, aBox, aField, aLoad, sub, aNil, aPick, aExt, aFld, gd, noJunk, plainOp, aBuildSlice, aBuild, aFill, aParts, seqParts, fitAll, List.range', ↓reduceIte, reduceCtorEq, Nat.reduceEqDiff, Nat.reduceAdd, Nat.reduceLeDiff, Nat.reduceMul, Nat.reduceLT, Nat.reduceBEq, Int.reduceEq, tf_L2_4]
          refine (hvb _).to ?_
          simp -implicitDefEqProofs only [setCells, h43, h43.symm, zero_cells, evb0, evb1, evb2, evb3, evb4, evb5, evb6, evb7, evb8, evb9, ↓evZ2, ↓evZ3, ↓Int.cast_ofNat_Int, implies_true, ne_eq, or_false, false_or, or_self, gt_iff_lt, isMut, aFn, List.contains, List.elem, aBox, aField, aLoad, sub, aNil, aPick, aExt, aFld, gd, noJunk, plainOp, aBuildSlice, aBuild, aFill, aParts, seqParts, fitAll, List.range', ↓reduceIte, reduceCtorEq, Nat.reduceEqDiff, Nat.reduceAdd, Nat.reduceLeDiff, Nat.reduceMul, Nat.reduceLT, Nat.reduceBEq, Int.reduceEq, tf_L2_4]
        | true =>
          rw [hB] at hvb
          have := hpart hA hB rfl rfl rfl (by rw [← hxe.1]; exact hxe.2) (by rw [← hye.1]; exact hye.2)
          rw [← hxe.1, ← hye.1] at this
          rw [this, hbf] at hcu
          refine (hcu _).to ?_
          simp -implicitDefEqProofs only [setCells, h43, h43.symm, zero_cells, evb0, evb1, evb2, evb3, evb4, evb5, evb6, evb7, evb8, evb9, ↓evZ2, ↓evZ3, ↓Int.cast_ofNat_Int, implies_true, ne_eq, or_false, false_or, or_self, gt_iff_lt, isMut, aFn, List.contains, List.elem, aBox, aField, aLoad, sub, aNil, aPick, aExt, aFld, gd, noJunk, plainOp, aBuildSlice, aBuild, aFill, aParts, seqParts, fitAll, List.range', ↓reduceIte, reduceCtorEq, Nat.reduceEqDiff, Nat.reduceAdd, Nat.reduceLeDiff, Nat.reduceMul, Nat.reduceLT, Nat.reduceBEq, Int.reduceEq, tf_L2_4]
          refine (hva _).to ?_
          simp -implicitDefEqProofs only [setCells, h43, h43.symm, zero_cells, evb0, evb1, evb2, evb3, evb4, evb5, evb6, evb7, evb8, evb9, ↓evZ2, ↓evZ3, ↓Int.cast_ofNat_Int, implies_true, ne_eq, or_false, false_or, or_self, gt_iff_lt, isMut, aFn, List.contains, List.elem, aBox, aField, aLoad, sub, aNil, aPick, aExt, aFld, gd, noJunk, plainOp, aBuildSlice, aBuild, aFill, aParts, seqParts, fitAll, List.range', ↓reduceIte, reduceCtorEq, Nat.reduceEqDiff, Nat.reduceAdd, Nat.reduceLeDiff, Nat.reduceMul, Nat.reduceLT, Nat.reduceBEq, Int.reduceEq, tf_L2_4]
          refine (hvb _).to ?_
          simp -implicitDefEqProofs only [beq_self_eq_true, setCells, h43, h43.symm, zero_cells, evb0, evb1, evb2, evb3, evb4, evb5, evb6, evb7, evb8, evb9, ↓evZ2, ↓evZ3, ↓Int.cast_ofNat_Int, implies_true, ne_eq, or_false, false_or, or_self, gt_iff_lt, isMut, aFn, List.contains, List.elem, aBox, aField, aLoad, sub, aNil, aPick, aExt, aFld, gd, noJunk, plainOp, aBuildSlice, aBuild, aFill, aParts, seqParts, fitAll, List.range', ↓reduceIte, reduceCtorEq, Nat.reduceEqDiff, Nat.reduceAdd, Nat.reduceLeDiff, Nat.reduceMul, Nat.reduceLT, Nat.reduceBEq, Int.reduceEq, tf_L2_4]
          refine (c_pgBinds bs _).to ?_
          simp -implicitDefEqProofs only [setCells, h43, h43.symm, zero_cells, evb0, evb1, evb2, evb3, evb4, evb5, evb6, evb7, evb8, evb9, ↓evZ2, ↓evZ3, ↓Int.cast_ofNat_Int, implies_true, ne_eq, or_false, false_or, or_self, gt_iff_lt, isMut, aFn, List.contains, List.elem, aBox, aField, aLoad, sub, aNil, aPick, aExt, aFld, gd, noJunk, plainOp, aBuildSlice, aBuild, aFill, aParts, seqParts, fitAll, List.range', ↓reduceIte, reduceCtorEq, Nat.reduceEqDiff, Nat.reduceAdd, Nat.reduceLeDiff, Nat.reduceMul, Nat.reduceLT, Nat.reduceBEq, Int.reduceEq, tf_L2_4]
end Go.AW

/- What a law is handed, read as data; the law's row from a contract. -/
namespace Go.AW
open Go.ChangeShapes Go.WideShapes Go.ChangeAt Go.RowKit

/-- No block is owned. -/
abbrev none0 : Store := fun _ => none

section
variable {H : Type} {enc : TypeId × Value → H} {P : Program} {w : World}

/-- Whatever is read as type t is data. -/
def Reads (enc : TypeId × Value → H) (P : Program) (w : World) (t n : Nat) {α : Type} (av : α → AV) : Prop :=
  ∀ cs x, DataW.trod enc P w 0 (fun _ => true) true n t cs = some x → ∃ a : α, VC w.heap none0 (av a) cs

theorem VEs_each {h : Heap} {st : Store} {b k : Nat} : ∀ {es : List AV} {off : Nat}, (∀ e ∈ es, e.width = k) → (∀ (i : Nat) e, es[i]? = some e → VE h st b (off + i * k) e) → VEs h st b off es
  | [], _, _, _ => by simp [VEs]
  | e :: es, off, hw, h => by
    simp only [VEs]
    refine ⟨by simpa [VE] using h 0 e rfl, VEs_each (fun x hx => hw x (by simp [hx])) fun i x hx => ?_⟩
    have := h (i + 1) x (by simpa using hx)
    rw [hw e (by simp), Nat.add_assoc, ← Nat.succ_mul' k i] 
    exact this
where Nat.succ_mul' (k i : Nat) : (i + 1) * k = k + i * k := by rw [Nat.succ_mul]; omega

theorem cell_spot {a : Addr} {v : Value} (h : w.cell? a = some v) : a.spot = none ∧ a.block < w.heap.size ∧ cellAt w.heap a.block a.off = some v := by
  unfold World.cell? at h
  split at h
  · rename_i c t fr hb
    split at h
    · cases h
    · rename_i hs
      refine ⟨by simpa using hs, (Array.getElem?_eq_some_iff.1 hb).1, by simp [cellAt, hb, h]⟩
  · cases h

theorem cells_at {a : Addr} {n : Nat} {cs : List Value} (hs : a.spot = none) (h : w.cells? 0 a n = some cs) : cellsAt w.heap a.block a.off cs ∧ cs.length = n := by
  obtain ⟨_, hl, hc⟩ := World.cells?_some h
  refine ⟨?_, hl⟩
  have : ∀ (l : List Value) (k : Nat), (∀ i, i < l.length → w.cell? (a.add (k + i)) = l[i]?) → cellsAt w.heap a.block (a.off + k) l := by
    intro l
    induction l with
    | nil => intro _ _; trivial
    | cons v l ih =>
      intro k hk
      refine ⟨?_, ?_⟩
      · have := (cell_spot (hk 0 (by simp))).2.2
        obtain ⟨b, off, sp⟩ := a
        simp only at hs
        subst hs
        simpa [Addr.add_flat] using this
      · have := ih (k + 1) (fun i hi => by have := hk (i + 1) (by simp; omega); rw [show k + 1 + i = k + (i + 1) by omega]; simpa using this)
        simpa [Nat.add_assoc] using this
  simpa using this cs 0 (fun i hi => by simpa using hc i (by omega))

theorem reads_slice {t e n k : Nat} {α : Type} {av : α → AV} (ht : P.underlying t = some (.slice e)) (hk : P.cellsOf e = k) (hpos : 0 < k) (hw : ∀ a, (av a).width = k) (hr : ∀ m, m < n → Reads enc P w e m av) :
    Reads enc P w t n (fun l : List α => .slice (l.map av)) := by
  intro cs x h
  rcases DataW.trod_slice ht h with ⟨rfl, _⟩ | ⟨a, len, cap, elems, rest, m, hm, rfl, rfl, _, hl, hcap, hlen, hel, hsp, _⟩
  · exact ⟨[], by simp only [List.map_nil]; unfold VC; exact .inl ⟨⟨_, rfl⟩, rfl⟩⟩
  obtain ⟨hrl, hrest⟩ := hsp rfl
  rw [hk] at hel hrest
  have get : ∀ i, i < cap → ∃ ds y, w.cells? 0 (a.add (i * k)) k = some ds ∧ DataW.trod enc P w 0 (fun _ => true) true m e ds = some y := by
    intro i hi
    have hb : ∃ y, (w.cells? 0 (a.add (i * k)) k).bind (DataW.trod enc P w 0 (fun _ => true) true m e) = some y := by
      by_cases hi' : i < len
      · exact ⟨elems[i]'(by omega), by rw [hel i hi']; simp [show i < elems.length by omega]⟩
      · have := hrest (i - len) (by omega)
        rw [show len + (i - len) = i by omega] at this
        exact ⟨rest[i - len]'(by omega), by rw [this]; simp [show i - len < rest.length by omega]⟩
    obtain ⟨y, hy⟩ := hb
    obtain ⟨ds, h1, h2⟩ := Option.bind_eq_some_iff.1 hy
    exact ⟨ds, y, h1, h2⟩
  by_cases hc0 : cap = 0
  · subst hc0
    obtain rfl : len = 0 := by omega
    exact ⟨[], by simp only [List.map_nil]; unfold VC; exact .inl ⟨⟨_, rfl⟩, rfl⟩⟩
  obtain ⟨ds0, _, hd0, _⟩ := get 0 (by omega)
  have hspot : a.spot = none ∧ a.block < w.heap.size := by
    obtain ⟨_, hl0, hc⟩ := World.cells?_some hd0
    have := hc 0 hpos
    have h0 : ds0[0]? = some (ds0[0]'(by omega)) := by simp [hl0, hpos]
    rw [h0] at this
    have := cell_spot this
    obtain ⟨b, off, sp⟩ := a
    simp only [Nat.zero_mul] at this
    cases sp with
    | none => exact ⟨rfl, by simpa [Addr.add_flat] using this.2.1⟩
    | some s => exact absurd this.1 (by simp [Addr.add])
  obtain ⟨b, off, sp⟩ := a
  simp only at hspot
  obtain ⟨rfl, hbl⟩ := hspot
  have val : ∀ i, i < len → ∃ v : α, VE w.heap none0 b (off + i * k) (av v) := by
    intro i hi
    obtain ⟨ds, y, h1, h2⟩ := get i (by omega)
    obtain ⟨v, hv⟩ := hr m (by omega) ds y h2
    obtain ⟨c1, c2⟩ := cells_at (a := (⟨b, off, none⟩ : Addr).add (i * k)) (by simp [Addr.add_flat]) h1
    exact ⟨v, ds, by simpa [Addr.add_flat] using c1, by rw [hw]; exact c2, hv⟩
  have build : ∀ j, j ≤ len → ∃ l : List α, l.length = j ∧ ∀ (i : Nat) v, l[i]? = some v → VE w.heap none0 b (off + i * k) (av v) := by
    intro j
    induction j with
    | zero => intro _; exact ⟨[], rfl, by simp⟩
    | succ j ih =>
      intro hj
      obtain ⟨l, h1, h2⟩ := ih (by omega)
      obtain ⟨v, hv⟩ := val j (by omega)
      refine ⟨l ++ [v], by simp [h1], fun i u hi => ?_⟩
      rw [List.getElem?_append] at hi
      split at hi
      · exact h2 i u hi
      · rename_i hge
        have : i = j := by
          have := (List.getElem?_eq_some_iff.1 hi).1
          simp at this
          omega
        subst this
        simp [h1] at hi
        subst hi
        exact hv
  obtain ⟨l, h1, h2⟩ := build len (Nat.le_refl _)
  refine ⟨l, ?_⟩
  unfold VC
  refine .inr ⟨b, off, cap, by simp [h1], by simp [h1]; exact hl, hcap, rfl, hbl, even_map hw l, VEs_each (k := k) (by intro e he; simp only [List.mem_map] at he; obtain ⟨v, _, rfl⟩ := he; exact hw v) fun i e he => ?_⟩
  rw [List.getElem?_map] at he
  obtain ⟨v, hv, rfl⟩ := Option.map_eq_some_iff.1 he
  exact h2 i v hv

theorem reads_val {t : TypeId} {α : Type} {av : α → AV} {v : Value} {d : DataW H} {ps : List MemPlace} (hr : ∀ n, Reads enc P w t n av) (hag : ∀ a, (av a).isAgg = vIsAgg v) (h : DataW.Trod enc P w 0 (fun _ => true) true t v d ps) :
    ∃ a : α, VRel w.heap none0 (av a) v := by
  obtain ⟨n, hn⟩ := h
  obtain ⟨a, ha⟩ := hr n _ _ hn
  refine ⟨a, ?_⟩
  have := hag a
  cases hq : av a <;> rw [hq] at ha this <;> first | trivial | exact ⟨this, ha⟩

/-! ### The row -/
theorem trodAll_stays (hl : laidOutB P = true) {W W' : World} {sp : Nat → Bool} : ∀ {ts : List TypeId} {vs : List Value} {ds : List (DataW H)} {ps : List MemPlace}, (ts.all fun t => P.readableRec t && decide (t < P.types.size)) = true →
    DataW.TrodAll enc P W 0 (fun _ => true) true ts vs ds ps → (∀ x ∈ ps, W.sameAt W' x) → (∀ x ∈ ps, sp x.block = true) → DataW.TrodAll enc P W' 0 sp true ts vs ds ps
  | [], vs, ds, ps, _, h, _, _ => by
    cases vs <;> cases ds <;> simp [DataW.TrodAll] at h ⊢
    exact h
  | t :: ts, vs, ds, ps, ht, h, h1, h2 => by
    obtain ⟨v, vs', d, ds', p, q, rfl, rfl, rfl, hd, hrest⟩ := trodAll_cons h
    simp only [List.all_cons, Bool.and_eq_true, decide_eq_true_eq] at ht
    refine ⟨p, q, Go.WideElems.Trod_stays hl ht.1.1 ht.1.2 hd (fun x hx => h1 x (by simp [hx])) (fun x hx => h2 x (by simp [hx])), trodAll_stays hl ht.2 hrest (fun x hx => h1 x (by simp [hx])) (fun x hx => h2 x (by simp [hx])), rfl⟩

theorem below_of {W W' : World} {st' : Store} (T : StepH W.heap none0 W'.heap st') (s : Same W W') : Below W.heap.size W W' :=
  ⟨s.1, s.2.1, s.2.2, T.size, fun k hk => (T.keep k hk rfl).1⟩

/-- A law that returns true and writes nothing that was there. -/
theorem law_row {f : Func} {g : FuncId} {s : ChangeSpec} {W : World} {args : Array Value} {ds : List (DataW H)} {before : List MemPlace} {avs : List AV} {tb : TypeId}
    (hl : laidOutB P = true) (hts : (f.params.toList.all fun t => P.readableRec t && decide (t < P.types.size)) = true) (hrt : f.resultTypes = #[tb]) (htb : P.underlying tb = some .bool) (hsv : s.vars = [])
    (hW : DataW.Whole enc P f.params.toList [] false W args.toList ds [] before) (hfn : s.fn H ds = { results := [.lit (.bool true)], args := ds }) (hrel : VRelL W.heap none0 avs args.toList)
    (hc : ACalls P g avs none0 (fun r _ => r = .bool true)) :
    Calls P g args W fun e W' => ∃ v, e = .returned v ∧ s.post enc P f false true false false W args v W' := by
  have hS : SRel W.heap none0 := fun b o h => by cases h
  have := hc.2 W args.toList hS hrel
  simp only [Array.toArray_toList] at this
  refine this.mono ?_
  rintro e W' ⟨v, r, st', rfl, hv, _, T, sm, rfl⟩
  refine ⟨v, rfl, ?_⟩
  have hB := below_of T sm
  rw [hv.bool_of]
  have hW' : DataW.Whole enc P f.params.toList s.vars false W args.toList ds [] before := by rw [hsv]; exact hW
  obtain ⟨p, q, hA, hV, rfl, hz, _⟩ := hW
  obtain ⟨_, rfl⟩ := trodVars_none hV
  have hlt : ∀ x ∈ p, x.block < W.heap.size := fun x hx => hW'.lt x (by simp [hx])
  have hres : ∀ (b : Nat) (sp : Nat → Bool) (hd : Bool), DataW.TrodAll enc P W' b sp hd f.resultTypes.toList ((Value.bool true).resultList f.resultTypes.size) (s.fn H (ds ++ [])).results [] := fun _ _ _ => by
    rw [List.append_nil, hfn, hrt]
    exact trodAll_mk1 (shut_bool htb true)
  have hargs : ∀ sp : Nat → Bool, (∀ x ∈ p, sp x.block = true) → DataW.TrodAll enc P W' 0 sp true f.params.toList args.toList (s.fn H (ds ++ [])).args p := fun sp hsp => by
    rw [List.append_nil, hfn]
    exact trodAll_stays hl hts hA (fun x hx => hB.same (hlt x hx)) hsp
  have hvars : ∀ sp : Nat → Bool, DataW.TrodVars enc P W' sp s.vars (s.fn H (ds ++ [])).vars [] := fun sp => by
    rw [List.append_nil, hfn, hsv]
    exact rfl
  refine ⟨ds, [], p ++ [], [], p, [], hW', hres _ _ _, hargs _ (fun x hx => by simpa using hlt x hx), hvars _, World.keptBut_mono (fun x hx => ⟨hx, by simpa using hx⟩) (hB.frame (· ∈ p ++ [])), fun _ => ?_⟩
  refine ⟨ok_one hrt rfl (okWide_bool_mk htb true), _, _, ([] ++ p) ++ [], ⟨[] ++ p, [], trodAll_append (hargs _ (fun _ _ => rfl)) (hres _ _ _), hvars _, rfl, ?_, ?_⟩, ?_⟩
  · intro b off hp
    have hp' : MemPlace.cell b off ∈ p := by simpa using hp
    rw [hB.frozen (p := ⟨b, off, none⟩) (hlt _ hp')]
    exact hz b off (by simpa using hp')
  · intro ha; cases ha
  · intro x hx _
    simpa using hx
end
end Go.AW


/- Bytes, read. -/
namespace Go.AW
open Go.Proofs.Try
set_option maxRecDepth 100000
section
variable {H : Type} {enc : TypeId × Value → H} {w : World}
theorem cellsOf_uint8 : prog.cellsOf 5 = 1 := by kernel_rfl
theorem reads_byte (n : Nat) : Reads enc prog w 5 n byteAv := by
  intro cs x h
  obtain ⟨k, rfl, _, hw⟩ := DataW.trod_int underlying5 h
  simp only [Lit.wf, IntKind.min, IntKind.max, IntKind.signed, IntKind.bits, Bool.and_eq_true, decide_eq_true_eq] at hw
  refine ⟨⟨k.toNat, ?_⟩, ?_⟩
  · simp at hw; omega
  · have : (((k.toNat : Nat)) : Int) = k := by simp at hw; omega
    simp only [byteAv, this, VC]
theorem reads_bytes (n : Nat) : Reads enc prog w 39 n (fun l : List Bt => .slice (l.map byteAv)) :=
  reads_slice underlying39 cellsOf_uint8 (by omega) byteAv_width fun m _ => reads_byte m
end
end Go.AW


/- Terms, answers, numbers and bytes, read. -/
namespace Go.AW
open Go.Proofs.Try
set_option maxRecDepth 100000
section
variable {H : Type} {enc : TypeId × Value → H} {w : World}

/-- Any other value. -/
theorem wide_slice {r : Reach} {b0 : Nat} {t e : TypeId} {v : Value} (ht : prog.underlying t = some (.slice e)) (h : Value.okWide prog w r b0 t v) : vIsAgg v = false := by
  cases v <;> first | rfl | (simp [Value.okWide, ht, Cell.okWide, Cell.ok] at h)
end
end Go.AW
