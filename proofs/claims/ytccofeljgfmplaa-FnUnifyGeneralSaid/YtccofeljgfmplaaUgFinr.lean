import Derived.Test.YtccofeljgfmplaaUgFing
import Derived.Test.YtccofeljgfmplaaUgFini
import Derived.Test.YtccofeljgfmplaaUgFino
import Derived.Test.YtccofeljgfmplaaUgFinq
import Derived.Test.YtccofeljgfmplaaUgFink
import Derived.ProofKit

/- Terms: what the reference's and the program's functions return. -/
namespace Go.AW
open Go.Proofs.Try
set_option linter.unusedSimpArgs false
set_option maxRecDepth 100000
theorem tf_Ts2_84 : (type_of% tI_2) ∧ (type_of% zI_2) ∧ (type_of% Go.Proofs.Try.underlying2) ∧ (type_of% tI_3) ∧ (type_of% zI_3) ∧ (type_of% Go.Proofs.Try.underlying3) ∧ (type_of% tI_4) ∧ (type_of% zI_4) ∧ (type_of% Go.Proofs.Try.underlying4) ∧ (type_of% tI_5) ∧ (type_of% zI_5) ∧ (type_of% Go.Proofs.Try.underlying5) ∧ (type_of% tI_6) ∧ (type_of% zI_6) ∧ (type_of% Go.Proofs.Try.underlying6) ∧ (type_of% tI_7) ∧ (type_of% zI_7) ∧ (type_of% fI_7_0) ∧ (type_of% fI_7_1) ∧ (type_of% fI_7_2) ∧ (type_of% fI_7_3) ∧ (type_of% bI_7) ∧ (type_of% tI_8) ∧ (type_of% zI_8) ∧ (type_of% fI_8_0) ∧ (type_of% fI_8_1) ∧ (type_of% fI_8_2) ∧ (type_of% fI_8_3) ∧ (type_of% bI_8) ∧ (type_of% tI_9) ∧ (type_of% zI_9) ∧ (type_of% Go.Proofs.Try.underlying9) ∧ (type_of% tI_10) ∧ (type_of% zI_10) ∧ (type_of% Go.Proofs.Try.underlying10) ∧ (type_of% tI_11) ∧ (type_of% zI_11) ∧ (type_of% Go.Proofs.Try.underlying11) ∧ (type_of% tI_12) ∧ (type_of% zI_12) ∧ (type_of% Go.Proofs.Try.underlying12) ∧ (type_of% tI_13) ∧ (type_of% zI_13) ∧ (type_of% fI_13_0) ∧ (type_of% fI_13_1) ∧ (type_of% bI_13) ∧ (type_of% tI_15) ∧ (type_of% zI_15) ∧ (type_of% tI_16) ∧ (type_of% zI_16) ∧ (type_of% tI_17) ∧ (type_of% zI_17) ∧ (type_of% tI_27) ∧ (type_of% zI_27) ∧ (type_of% eI_27) ∧ (type_of% eB_27) ∧ (type_of% eZ_27) ∧ (type_of% Go.Proofs.Try.underlying27) ∧ (type_of% tI_31) ∧ (type_of% zI_31) ∧ (type_of% fI_31_0) ∧ (type_of% bI_31) ∧ (type_of% tI_32) ∧ (type_of% zI_32) ∧ (type_of% fI_32_0) ∧ (type_of% bI_32) ∧ (type_of% tI_41) ∧ (type_of% zI_41) ∧ (type_of% fI_41_0) ∧ (type_of% fI_41_1) ∧ (type_of% fI_41_2) ∧ (type_of% fI_41_3) ∧ (type_of% bI_41) ∧ (type_of% tI_64) ∧ (type_of% zI_64) ∧ (type_of% fI_64_0) ∧ (type_of% fI_64_1) ∧ (type_of% bI_64) := ⟨tI_2, zI_2, Go.Proofs.Try.underlying2, tI_3, zI_3, Go.Proofs.Try.underlying3, tI_4, zI_4, Go.Proofs.Try.underlying4, tI_5, zI_5, Go.Proofs.Try.underlying5, tI_6, zI_6, Go.Proofs.Try.underlying6, tI_7, zI_7, fI_7_0, fI_7_1, fI_7_2, fI_7_3, bI_7, tI_8, zI_8, fI_8_0, fI_8_1, fI_8_2, fI_8_3, bI_8, tI_9, zI_9, Go.Proofs.Try.underlying9, tI_10, zI_10, Go.Proofs.Try.underlying10, tI_11, zI_11, Go.Proofs.Try.underlying11, tI_12, zI_12, Go.Proofs.Try.underlying12, tI_13, zI_13, fI_13_0, fI_13_1, bI_13, tI_15, zI_15, tI_16, zI_16, tI_17, zI_17, tI_27, zI_27, eI_27, eB_27, eZ_27, Go.Proofs.Try.underlying27, tI_31, zI_31, fI_31_0, bI_31, tI_32, zI_32, fI_32_0, bI_32, tI_41, zI_41, fI_41_0, fI_41_1, fI_41_2, fI_41_3, bI_41, tI_64, zI_64, fI_64_0, fI_64_1, bI_64⟩
theorem c_EqualFuncTerm (l l' : List Tm) (g : FuncId) (st : Store) (hc : ∀ x ∈ l, ∀ (y : Tm) (st : Store), ACalls prog g [Tm.av x, Tm.av y] st (fun r st' => r = .bool (Tm.same x y) ∧ st' = st)) :
    ACalls prog 84 [.slice (l.map Tm.av), .slice (l'.map Tm.av), .func g []] st (fun r st' => r = .bool (eqL Tm.same l l') ∧ st' = st) := by
  refine acalls_fit [1000000] func84 ntmps84 rfl rfl (by kernel_rfl) (by decide +kernel) (by show 3 ≤ _; decide +kernel) ?_
  simp only [fitsL, AV.fits, and_true, List.length_map]
  intro ⟨⟨hl, _⟩, ⟨hl', _⟩⟩
  simp -implicitDefEqProofs only [List.length_map, Tm.av_agg, Tm.av_width, Tm.av_store, Tm.av_junk, evb0, evb1, evb2, evb3, evb4, evb5, evb6, evb7, evb8, evb9, ↓evZ2, ↓evZ3, ↓Int.cast_ofNat_Int, implies_true, ne_eq, or_false, false_or, or_self, gt_iff_lt, isMut, aFn, List.contains, List.elem, aBox, aField, aLoad, sub, aNil, aPick, aExt, aFld, gd, noJunk, plainOp, aBuildSlice, aBuild, aFill, aParts, seqParts, fitAll, List.range', ↓reduceIte, reduceCtorEq, Nat.reduceEqDiff, Nat.reduceAdd, Nat.reduceLeDiff, Nat.reduceMul, Nat.reduceLT, Nat.reduceBEq, Int.reduceEq, tf_Ts2_84]
  refine ⟨fun h4 => ?_, fun h4 => ?_⟩
  · simp -implicitDefEqProofs only [List.length_map, Tm.av_agg, Tm.av_width, Tm.av_store, Tm.av_junk, evb0, evb1, evb2, evb3, evb4, evb5, evb6, evb7, evb8, evb9, ↓evZ2, ↓evZ3, ↓Int.cast_ofNat_Int, implies_true, ne_eq, or_false, false_or, or_self, gt_iff_lt, isMut, aFn, List.contains, List.elem, aBox, aField, aLoad, sub, aNil, aPick, aExt, aFld, gd, noJunk, plainOp, aBuildSlice, aBuild, aFill, aParts, seqParts, fitAll, List.range', ↓reduceIte, reduceCtorEq, Nat.reduceEqDiff, Nat.reduceAdd, Nat.reduceLeDiff, Nat.reduceMul, Nat.reduceLT, Nat.reduceBEq, Int.reduceEq, tf_Ts2_84]
    simp only [Bool.not_eq_true', decide_eq_false_iff_not] at h4
    rw [eqL_len _ (show l.length ≠ l'.length by omega)]
  simp only [Bool.not_eq_false', decide_eq_true_eq] at h4
  have h4' : l.length = l'.length := by omega
  simp -implicitDefEqProofs only [List.length_map, Tm.av_agg, Tm.av_width, Tm.av_store, Tm.av_junk, evb0, evb1, evb2, evb3, evb4, evb5, evb6, evb7, evb8, evb9, ↓evZ2, ↓evZ3, ↓Int.cast_ofNat_Int, implies_true, ne_eq, or_false, false_or, or_self, gt_iff_lt, isMut, aFn, List.contains, List.elem, aBox, aField, aLoad, sub, aNil, aPick, aExt, aFld, gd, noJunk, plainOp, aBuildSlice, aBuild, aFill, aParts, seqParts, fitAll, List.range', ↓reduceIte, reduceCtorEq, Nat.reduceEqDiff, Nat.reduceAdd, Nat.reduceLeDiff, Nat.reduceMul, Nat.reduceLT, Nat.reduceBEq, Int.reduceEq, tf_Ts2_84]
  refine arun_each (σ := Unit) [1000000] [1, 2, 15, 16] l (fun i _ => ∀ (j : Nat) (x y : Tm), j < i → l[j]? = some x → l'[j]? = some y → Tm.same x y = true) (fun i _ => [(17, .int .i64 i)]) (fun _ _ => st) (by decide +kernel) ⟨(), by intro j x y h; omega, LessL.mk (by simp -implicitDefEqProofs only [List.length_map, Tm.av_agg, Tm.av_width, Tm.av_store, Tm.av_junk, evb0, evb1, evb2, evb3, evb4, evb5, evb6, evb7, evb8, evb9, ↓evZ2, ↓evZ3, ↓Int.cast_ofNat_Int, implies_true, ne_eq, or_false, false_or, or_self, gt_iff_lt, isMut, aFn, List.contains, List.elem, aBox, aField, aLoad, sub, aNil, aPick, aExt, aFld, gd, noJunk, plainOp, aBuildSlice, aBuild, aFill, aParts, seqParts, fitAll, List.range', ↓reduceIte, reduceCtorEq, Nat.reduceEqDiff, Nat.reduceAdd, Nat.reduceLeDiff, Nat.reduceMul, Nat.reduceLT, Nat.reduceBEq, Int.reduceEq, tf_Ts2_84])⟩ (fun i x _ hx hlt hlt' hdr hall => ?_) (fun _ hge hall => ?_)
  case refine_2 =>
    simp -implicitDefEqProofs only [hge, List.length_map, Tm.av_agg, Tm.av_width, Tm.av_store, Tm.av_junk, evb0, evb1, evb2, evb3, evb4, evb5, evb6, evb7, evb8, evb9, ↓evZ2, ↓evZ3, ↓Int.cast_ofNat_Int, implies_true, ne_eq, or_false, false_or, or_self, gt_iff_lt, isMut, aFn, List.contains, List.elem, aBox, aField, aLoad, sub, aNil, aPick, aExt, aFld, gd, noJunk, plainOp, aBuildSlice, aBuild, aFill, aParts, seqParts, fitAll, List.range', ↓reduceIte, reduceCtorEq, Nat.reduceEqDiff, Nat.reduceAdd, Nat.reduceLeDiff, Nat.reduceMul, Nat.reduceLT, Nat.reduceBEq, Int.reduceEq, tf_Ts2_84]
    rw [eqL_all _ h4' (fun j x y h6 h7 => hall j x y (by have := (List.getElem?_eq_some_iff.1 h6).1; omega) h6 h7)]
  obtain ⟨y, hy⟩ : ∃ y, l'[i]? = some y := ⟨_, List.getElem?_eq_getElem (h4' ▸ hlt)⟩
  have hw := wrap64 (n := (i : Int) + 1) (by omega) (by omega)
  simp -implicitDefEqProofs only [hlt', List.length_map, Tm.av_agg, Tm.av_width, Tm.av_store, Tm.av_junk, ev_at (av := Tm.av) eI_27 hx (Tm.av_width x), ev_at (av := Tm.av) eI_27 hy (Tm.av_width y), evb0, evb1, evb2, evb3, evb4, evb5, evb6, evb7, evb8, evb9, ↓evZ2, ↓evZ3, ↓Int.cast_ofNat_Int, implies_true, ne_eq, or_false, false_or, or_self, gt_iff_lt, isMut, aFn, List.contains, List.elem, aBox, aField, aLoad, sub, aNil, aPick, aExt, aFld, gd, noJunk, plainOp, aBuildSlice, aBuild, aFill, aParts, seqParts, fitAll, List.range', ↓reduceIte, reduceCtorEq, Nat.reduceEqDiff, Nat.reduceAdd, Nat.reduceLeDiff, Nat.reduceMul, Nat.reduceLT, Nat.reduceBEq, Int.reduceEq, tf_Ts2_84]
  refine (hc x (List.mem_of_getElem? hx) y _).to ?_
  simp -implicitDefEqProofs only [List.length_map, Tm.av_agg, Tm.av_width, Tm.av_store, Tm.av_junk, ev_at (av := Tm.av) eI_27 hx (Tm.av_width x), ev_at (av := Tm.av) eI_27 hy (Tm.av_width y), evb0, evb1, evb2, evb3, evb4, evb5, evb6, evb7, evb8, evb9, ↓evZ2, ↓evZ3, ↓Int.cast_ofNat_Int, implies_true, ne_eq, or_false, false_or, or_self, gt_iff_lt, isMut, aFn, List.contains, List.elem, aBox, aField, aLoad, sub, aNil, aPick, aExt, aFld, gd, noJunk, plainOp, aBuildSlice, aBuild, aFill, aParts, seqParts, fitAll, List.range', ↓reduceIte, reduceCtorEq, Nat.reduceEqDiff, Nat.reduceAdd, Nat.reduceLeDiff, Nat.reduceMul, Nat.reduceLT, Nat.reduceBEq, Int.reduceEq, tf_Ts2_84]
  refine ⟨fun h6 => ?_, fun h6 => ?_⟩
  · simp -implicitDefEqProofs only [List.length_map, Tm.av_agg, Tm.av_width, Tm.av_store, Tm.av_junk, ev_at (av := Tm.av) eI_27 hx (Tm.av_width x), ev_at (av := Tm.av) eI_27 hy (Tm.av_width y), evb0, evb1, evb2, evb3, evb4, evb5, evb6, evb7, evb8, evb9, ↓evZ2, ↓evZ3, ↓Int.cast_ofNat_Int, implies_true, ne_eq, or_false, false_or, or_self, gt_iff_lt, isMut, aFn, List.contains, List.elem, aBox, aField, aLoad, sub, aNil, aPick, aExt, aFld, gd, noJunk, plainOp, aBuildSlice, aBuild, aFill, aParts, seqParts, fitAll, List.range', ↓reduceIte, reduceCtorEq, Nat.reduceEqDiff, Nat.reduceAdd, Nat.reduceLeDiff, Nat.reduceMul, Nat.reduceLT, Nat.reduceBEq, Int.reduceEq, tf_Ts2_84]
    have h7 : Tm.same x y = false := by simpa using h6
    rw [eqL_at _ i x y hx hy h7]
  have h7 : Tm.same x y = true := by simpa using h6
  simp -implicitDefEqProofs only [List.length_map, Tm.av_agg, Tm.av_width, Tm.av_store, Tm.av_junk, ev_at (av := Tm.av) eI_27 hx (Tm.av_width x), ev_at (av := Tm.av) eI_27 hy (Tm.av_width y), evb0, evb1, evb2, evb3, evb4, evb5, evb6, evb7, evb8, evb9, ↓evZ2, ↓evZ3, ↓Int.cast_ofNat_Int, implies_true, ne_eq, or_false, false_or, or_self, gt_iff_lt, isMut, aFn, List.contains, List.elem, aBox, aField, aLoad, sub, aNil, aPick, aExt, aFld, gd, noJunk, plainOp, aBuildSlice, aBuild, aFill, aParts, seqParts, fitAll, List.range', ↓reduceIte, reduceCtorEq, Nat.reduceEqDiff, Nat.reduceAdd, Nat.reduceLeDiff, Nat.reduceMul, Nat.reduceLT, Nat.reduceBEq, Int.reduceEq, tf_Ts2_84]
  refine ⟨(), fun j u v hj hu hv => ?_, LessL.mk (by simp -implicitDefEqProofs only [hw, List.length_map, Tm.av_agg, Tm.av_width, Tm.av_store, Tm.av_junk, ev_at (av := Tm.av) eI_27 hx (Tm.av_width x), ev_at (av := Tm.av) eI_27 hy (Tm.av_width y), evb0, evb1, evb2, evb3, evb4, evb5, evb6, evb7, evb8, evb9, ↓evZ2, ↓evZ3, ↓Int.cast_ofNat_Int, implies_true, ne_eq, or_false, false_or, or_self, gt_iff_lt, isMut, aFn, List.contains, List.elem, aBox, aField, aLoad, sub, aNil, aPick, aExt, aFld, gd, noJunk, plainOp, aBuildSlice, aBuild, aFill, aParts, seqParts, fitAll, List.range', ↓reduceIte, reduceCtorEq, Nat.reduceEqDiff, Nat.reduceAdd, Nat.reduceLeDiff, Nat.reduceMul, Nat.reduceLT, Nat.reduceBEq, Int.reduceEq, tf_Ts2_84])⟩
  rcases Nat.lt_or_ge j i with h8 | h8
  · exact hall j u v h8 hu hv
  · obtain rfl : j = i := by omega
    rw [hx] at hu; rw [hy] at hv; cases hu; cases hv; exact h7


theorem tf_Ts2_29 : (type_of% tI_2) ∧ (type_of% zI_2) ∧ (type_of% Go.Proofs.Try.underlying2) ∧ (type_of% tI_3) ∧ (type_of% zI_3) ∧ (type_of% Go.Proofs.Try.underlying3) ∧ (type_of% tI_4) ∧ (type_of% zI_4) ∧ (type_of% Go.Proofs.Try.underlying4) ∧ (type_of% tI_5) ∧ (type_of% zI_5) ∧ (type_of% Go.Proofs.Try.underlying5) ∧ (type_of% tI_9) ∧ (type_of% zI_9) ∧ (type_of% Go.Proofs.Try.underlying9) ∧ (type_of% tI_12) ∧ (type_of% zI_12) ∧ (type_of% Go.Proofs.Try.underlying12) ∧ (type_of% tI_19) ∧ (type_of% zI_19) ∧ (type_of% fI_19_0) ∧ (type_of% bI_19) ∧ (type_of% tI_27) ∧ (type_of% zI_27) ∧ (type_of% eI_27) ∧ (type_of% eB_27) ∧ (type_of% eZ_27) ∧ (type_of% Go.Proofs.Try.underlying27) ∧ (type_of% tI_31) ∧ (type_of% zI_31) ∧ (type_of% fI_31_0) ∧ (type_of% bI_31) ∧ (type_of% tI_41) ∧ (type_of% zI_41) ∧ (type_of% fI_41_0) ∧ (type_of% fI_41_1) ∧ (type_of% fI_41_2) ∧ (type_of% fI_41_3) ∧ (type_of% bI_41) := ⟨tI_2, zI_2, Go.Proofs.Try.underlying2, tI_3, zI_3, Go.Proofs.Try.underlying3, tI_4, zI_4, Go.Proofs.Try.underlying4, tI_5, zI_5, Go.Proofs.Try.underlying5, tI_9, zI_9, Go.Proofs.Try.underlying9, tI_12, zI_12, Go.Proofs.Try.underlying12, tI_19, zI_19, fI_19_0, bI_19, tI_27, zI_27, eI_27, eB_27, eZ_27, Go.Proofs.Try.underlying27, tI_31, zI_31, fI_31_0, bI_31, tI_41, zI_41, fI_41_0, fI_41_1, fI_41_2, fI_41_3, bI_41⟩
theorem c_impl_TermSame : ∀ (a b : Tm) (st : Store), ACalls prog 29 [a.av, b.av] st (fun r st' => r = .bool (a.same b) ∧ st' = st)
  | .mk k n s ts, .mk k' n' s' ts', st => by
    have hc := c_EqualFuncTerm ts ts' 29 st fun x hx y st => c_impl_TermSame x y st
    refine acalls_fit [] func29 ntmps29 rfl rfl (by kernel_rfl) (by decide +kernel) (by show 2 ≤ _; decide +kernel) ?_
    intro _
    simp only [Tm.av_mk, Tm.same_mk]
    simp -implicitDefEqProofs only [evb0, evb1, evb2, evb3, evb4, evb5, evb6, evb7, evb8, evb9, ↓evZ2, ↓evZ3, ↓Int.cast_ofNat_Int, implies_true, ne_eq, or_false, false_or, or_self, gt_iff_lt, isMut, aFn, List.contains, List.elem, aBox, aField, aLoad, sub, aNil, aPick, aExt, aFld, gd, noJunk, plainOp, aBuildSlice, aBuild, aFill, aParts, seqParts, fitAll, List.range', ↓reduceIte, reduceCtorEq, Nat.reduceEqDiff, Nat.reduceAdd, Nat.reduceLeDiff, Nat.reduceMul, Nat.reduceLT, Nat.reduceBEq, Int.reduceEq, tf_Ts2_29]
    refine opsG_split (fun h1 => ?_) (fun h1 => ?_)
    case refine_2 =>
      simp -implicitDefEqProofs only [h1, evb0, evb1, evb2, evb3, evb4, evb5, evb6, evb7, evb8, evb9, ↓evZ2, ↓evZ3, ↓Int.cast_ofNat_Int, implies_true, ne_eq, or_false, false_or, or_self, gt_iff_lt, isMut, aFn, List.contains, List.elem, aBox, aField, aLoad, sub, aNil, aPick, aExt, aFld, gd, noJunk, plainOp, aBuildSlice, aBuild, aFill, aParts, seqParts, fitAll, List.range', ↓reduceIte, reduceCtorEq, Nat.reduceEqDiff, Nat.reduceAdd, Nat.reduceLeDiff, Nat.reduceMul, Nat.reduceLT, Nat.reduceBEq, Int.reduceEq, tf_Ts2_29]
      simp at h1
      simp [h1]
    simp -implicitDefEqProofs only [h1, evb0, evb1, evb2, evb3, evb4, evb5, evb6, evb7, evb8, evb9, ↓evZ2, ↓evZ3, ↓Int.cast_ofNat_Int, implies_true, ne_eq, or_false, false_or, or_self, gt_iff_lt, isMut, aFn, List.contains, List.elem, aBox, aField, aLoad, sub, aNil, aPick, aExt, aFld, gd, noJunk, plainOp, aBuildSlice, aBuild, aFill, aParts, seqParts, fitAll, List.range', ↓reduceIte, reduceCtorEq, Nat.reduceEqDiff, Nat.reduceAdd, Nat.reduceLeDiff, Nat.reduceMul, Nat.reduceLT, Nat.reduceBEq, Int.reduceEq, tf_Ts2_29]
    refine opsG_split (fun h2 => ?_) (fun h2 => ?_)
    case refine_2 =>
      simp -implicitDefEqProofs only [h1, h2, evb0, evb1, evb2, evb3, evb4, evb5, evb6, evb7, evb8, evb9, ↓evZ2, ↓evZ3, ↓Int.cast_ofNat_Int, implies_true, ne_eq, or_false, false_or, or_self, gt_iff_lt, isMut, aFn, List.contains, List.elem, aBox, aField, aLoad, sub, aNil, aPick, aExt, aFld, gd, noJunk, plainOp, aBuildSlice, aBuild, aFill, aParts, seqParts, fitAll, List.range', ↓reduceIte, reduceCtorEq, Nat.reduceEqDiff, Nat.reduceAdd, Nat.reduceLeDiff, Nat.reduceMul, Nat.reduceLT, Nat.reduceBEq, Int.reduceEq, tf_Ts2_29]
      simp at h2
      simp [h2]
    simp -implicitDefEqProofs only [h1, h2, evb0, evb1, evb2, evb3, evb4, evb5, evb6, evb7, evb8, evb9, ↓evZ2, ↓evZ3, ↓Int.cast_ofNat_Int, implies_true, ne_eq, or_false, false_or, or_self, gt_iff_lt, isMut, aFn, List.contains, List.elem, aBox, aField, aLoad, sub, aNil, aPick, aExt, aFld, gd, noJunk, plainOp, aBuildSlice, aBuild, aFill, aParts, seqParts, fitAll, List.range', ↓reduceIte, reduceCtorEq, Nat.reduceEqDiff, Nat.reduceAdd, Nat.reduceLeDiff, Nat.reduceMul, Nat.reduceLT, Nat.reduceBEq, Int.reduceEq, tf_Ts2_29]
    refine opsG_split (fun h3 => ?_) (fun h3 => ?_)
    case refine_2 =>
      simp -implicitDefEqProofs only [h1, h2, h3, evb0, evb1, evb2, evb3, evb4, evb5, evb6, evb7, evb8, evb9, ↓evZ2, ↓evZ3, ↓Int.cast_ofNat_Int, implies_true, ne_eq, or_false, false_or, or_self, gt_iff_lt, isMut, aFn, List.contains, List.elem, aBox, aField, aLoad, sub, aNil, aPick, aExt, aFld, gd, noJunk, plainOp, aBuildSlice, aBuild, aFill, aParts, seqParts, fitAll, List.range', ↓reduceIte, reduceCtorEq, Nat.reduceEqDiff, Nat.reduceAdd, Nat.reduceLeDiff, Nat.reduceMul, Nat.reduceLT, Nat.reduceBEq, Int.reduceEq, tf_Ts2_29]
      simp at h3
      simp [h3]
    simp -implicitDefEqProofs only [h1, h2, h3, evb0, evb1, evb2, evb3, evb4, evb5, evb6, evb7, evb8, evb9, ↓evZ2, ↓evZ3, ↓Int.cast_ofNat_Int, implies_true, ne_eq, or_false, false_or, or_self, gt_iff_lt, isMut, aFn, List.contains, List.elem, aBox, aField, aLoad, sub, aNil, aPick, aExt, aFld, gd, noJunk, plainOp, aBuildSlice, aBuild, aFill, aParts, seqParts, fitAll, List.range', ↓reduceIte, reduceCtorEq, Nat.reduceEqDiff, Nat.reduceAdd, Nat.reduceLeDiff, Nat.reduceMul, Nat.reduceLT, Nat.reduceBEq, Int.reduceEq, tf_Ts2_29]
    refine hc.to ?_
    simp -implicitDefEqProofs only [h1, h2, h3, evb0, evb1, evb2, evb3, evb4, evb5, evb6, evb7, evb8, evb9, ↓evZ2, ↓evZ3, ↓Int.cast_ofNat_Int, implies_true, ne_eq, or_false, false_or, or_self, gt_iff_lt, isMut, aFn, List.contains, List.elem, aBox, aField, aLoad, sub, aNil, aPick, aExt, aFld, gd, noJunk, plainOp, aBuildSlice, aBuild, aFill, aParts, seqParts, fitAll, List.range', ↓reduceIte, reduceCtorEq, Nat.reduceEqDiff, Nat.reduceAdd, Nat.reduceLeDiff, Nat.reduceMul, Nat.reduceLT, Nat.reduceBEq, Int.reduceEq, tf_Ts2_29]
termination_by a => SizeOf.sizeOf a
decreasing_by have := List.sizeOf_lt_of_mem hx; simp only [Tm.mk.sizeOf_spec]; omega

end Go.AW


/- Unified terms are equal: the law. -/
namespace Go.AW
open Go.Proofs.Try
set_option linter.unusedSimpArgs false
set_option maxRecDepth 100000

theorem tm_same_refl (t : Tm) : t.same t = true := (Tm.same_eq t t).2 rfl

theorem tf_L1_25 : (type_of% tI_2) ∧ (type_of% zI_2) ∧ (type_of% Go.Proofs.Try.underlying2) ∧ (type_of% tI_3) ∧ (type_of% zI_3) ∧ (type_of% Go.Proofs.Try.underlying3) ∧ (type_of% tI_4) ∧ (type_of% zI_4) ∧ (type_of% Go.Proofs.Try.underlying4) ∧ (type_of% tI_5) ∧ (type_of% zI_5) ∧ (type_of% Go.Proofs.Try.underlying5) ∧ (type_of% tI_6) ∧ (type_of% zI_6) ∧ (type_of% Go.Proofs.Try.underlying6) ∧ (type_of% tI_7) ∧ (type_of% zI_7) ∧ (type_of% fI_7_0) ∧ (type_of% fI_7_1) ∧ (type_of% fI_7_2) ∧ (type_of% fI_7_3) ∧ (type_of% bI_7) ∧ (type_of% tI_8) ∧ (type_of% zI_8) ∧ (type_of% fI_8_0) ∧ (type_of% fI_8_1) ∧ (type_of% fI_8_2) ∧ (type_of% fI_8_3) ∧ (type_of% bI_8) ∧ (type_of% tI_9) ∧ (type_of% zI_9) ∧ (type_of% Go.Proofs.Try.underlying9) ∧ (type_of% tI_11) ∧ (type_of% zI_11) ∧ (type_of% Go.Proofs.Try.underlying11) ∧ (type_of% tI_12) ∧ (type_of% zI_12) ∧ (type_of% Go.Proofs.Try.underlying12) ∧ (type_of% tI_13) ∧ (type_of% zI_13) ∧ (type_of% fI_13_0) ∧ (type_of% fI_13_1) ∧ (type_of% bI_13) ∧ (type_of% tI_39) ∧ (type_of% zI_39) ∧ (type_of% eI_39) ∧ (type_of% eB_39) ∧ (type_of% eZ_39) ∧ (type_of% Go.Proofs.Try.underlying39) ∧ (type_of% tI_41) ∧ (type_of% zI_41) ∧ (type_of% fI_41_0) ∧ (type_of% fI_41_1) ∧ (type_of% fI_41_2) ∧ (type_of% fI_41_3) ∧ (type_of% bI_41) ∧ (type_of% tI_44) ∧ (type_of% zI_44) ∧ (type_of% eI_44) ∧ (type_of% eB_44) ∧ (type_of% eZ_44) ∧ (type_of% Go.Proofs.Try.underlying44) ∧ (type_of% tI_54) ∧ (type_of% zI_54) ∧ (type_of% fI_54_0) ∧ (type_of% fI_54_1) ∧ (type_of% bI_54) ∧ (type_of% tI_64) ∧ (type_of% zI_64) ∧ (type_of% fI_64_0) ∧ (type_of% fI_64_1) ∧ (type_of% bI_64) := ⟨tI_2, zI_2, Go.Proofs.Try.underlying2, tI_3, zI_3, Go.Proofs.Try.underlying3, tI_4, zI_4, Go.Proofs.Try.underlying4, tI_5, zI_5, Go.Proofs.Try.underlying5, tI_6, zI_6, Go.Proofs.Try.underlying6, tI_7, zI_7, fI_7_0, fI_7_1, fI_7_2, fI_7_3, bI_7, tI_8, zI_8, fI_8_0, fI_8_1, fI_8_2, fI_8_3, bI_8, tI_9, zI_9, Go.Proofs.Try.underlying9, tI_11, zI_11, Go.Proofs.Try.underlying11, tI_12, zI_12, Go.Proofs.Try.underlying12, tI_13, zI_13, fI_13_0, fI_13_1, bI_13, tI_39, zI_39, eI_39, eB_39, eZ_39, Go.Proofs.Try.underlying39, tI_41, zI_41, fI_41_0, fI_41_1, fI_41_2, fI_41_3, bI_41, tI_44, zI_44, eI_44, eB_44, eZ_44, Go.Proofs.Try.underlying44, tI_54, zI_54, fI_54_0, fI_54_1, bI_54, tI_64, zI_64, fI_64_0, fI_64_1, bI_64⟩
theorem c_pgBinds (bs : List Bd) (st : Store) : ACalls prog 25 [.slice (bs.map bdAv), .slice (bs.map bdAv)] st (fun r st' => r = .bool true ∧ st' = st) := by
  refine acalls_fit [1000000] func25 ntmps25 rfl rfl (by kernel_rfl) (by decide +kernel) (by show 2 ≤ _; decide +kernel) ?_
  simp only [fitsL, AV.fits, and_true, List.length_map]
  intro ⟨⟨hl, _⟩, _⟩
  simp -implicitDefEqProofs only [decide_true, List.length_map, evb0, evb1, evb2, evb3, evb4, evb5, evb6, evb7, evb8, evb9, ↓evZ2, ↓evZ3, ↓Int.cast_ofNat_Int, implies_true, ne_eq, or_false, false_or, or_self, gt_iff_lt, isMut, aFn, List.contains, List.elem, aBox, aField, aLoad, sub, aNil, aPick, aExt, aFld, gd, noJunk, plainOp, aBuildSlice, aBuild, aFill, aParts, seqParts, fitAll, List.range', ↓reduceIte, reduceCtorEq, Nat.reduceEqDiff, Nat.reduceAdd, Nat.reduceLeDiff, Nat.reduceMul, Nat.reduceLT, Nat.reduceBEq, Int.reduceEq, tf_L1_25]
  refine arun_each (σ := Unit) [1000000] [0, 1] bs (fun _ _ => True) (fun i _ => [(4, .bool false), (5, .int .i64 i)]) (fun _ _ => st) (by decide +kernel) ⟨(), trivial, LessL.mk (by simp -implicitDefEqProofs only [List.length_map, evb0, evb1, evb2, evb3, evb4, evb5, evb6, evb7, evb8, evb9, ↓evZ2, ↓evZ3, ↓Int.cast_ofNat_Int, implies_true, ne_eq, or_false, false_or, or_self, gt_iff_lt, isMut, aFn, List.contains, List.elem, aBox, aField, aLoad, sub, aNil, aPick, aExt, aFld, gd, noJunk, plainOp, aBuildSlice, aBuild, aFill, aParts, seqParts, fitAll, List.range', ↓reduceIte, reduceCtorEq, Nat.reduceEqDiff, Nat.reduceAdd, Nat.reduceLeDiff, Nat.reduceMul, Nat.reduceLT, Nat.reduceBEq, Int.reduceEq, tf_L1_25])⟩ (fun i x _ hx hlt hlt' hdr _ => ?_) (fun _ hge _ => ?_)
  case refine_2 =>
    simp -implicitDefEqProofs only [hge, List.length_map, evb0, evb1, evb2, evb3, evb4, evb5, evb6, evb7, evb8, evb9, ↓evZ2, ↓evZ3, ↓Int.cast_ofNat_Int, implies_true, ne_eq, or_false, false_or, or_self, gt_iff_lt, isMut, aFn, List.contains, List.elem, aBox, aField, aLoad, sub, aNil, aPick, aExt, aFld, gd, noJunk, plainOp, aBuildSlice, aBuild, aFill, aParts, seqParts, fitAll, List.range', ↓reduceIte, reduceCtorEq, Nat.reduceEqDiff, Nat.reduceAdd, Nat.reduceLeDiff, Nat.reduceMul, Nat.reduceLT, Nat.reduceBEq, Int.reduceEq, tf_L1_25]
  obtain ⟨n, t⟩ := x
  have hw := wrap64 (n := (i : Int) + 1) (by omega) (by omega)
  have hat := ev_at (av := bdAv) eI_44 hx (bdAv_width _)
  have hbd : bdAv (n, t) = .agg (.int .i64 n :: t.av.cells) := rfl
  simp -implicitDefEqProofs only [hlt', List.length_map, hat, hbd, bdAv_width, Tm.av_agg, Tm.av_width, take_all (Tm.av_cells _), agg_cells (Tm.av_agg _), Tm.av_cells, Nat.le_refl, hw, evb0, evb1, evb2, evb3, evb4, evb5, evb6, evb7, evb8, evb9, ↓evZ2, ↓evZ3, ↓Int.cast_ofNat_Int, implies_true, ne_eq, or_false, false_or, or_self, gt_iff_lt, isMut, aFn, List.contains, List.elem, aBox, aField, aLoad, sub, aNil, aPick, aExt, aFld, gd, noJunk, plainOp, aBuildSlice, aBuild, aFill, aParts, seqParts, fitAll, List.range', ↓reduceIte, reduceCtorEq, Nat.reduceEqDiff, Nat.reduceAdd, Nat.reduceLeDiff, Nat.reduceMul, Nat.reduceLT, Nat.reduceBEq, Int.reduceEq, tf_L1_25]
  refine arun_planX [(0, 1), (1, 1), (2, 1), (3, 1), (4, 1), (5, 1), (6, 1), (7, 1), (8, 1), (9, 1), (10, 1), (11, 1), (12, 1), (13, 1), (14, 1), (15, 1), (16, 1), (17, 1), (18, 1), (19, 1), (20, 1), (21, 1), (22, 0), (23, 1), (24, 1)] [0, 1, 2, 3, 4, 5, 6, 7, 8, 9, 10, 11, 12, 13, 14, 15, 16, 17, 18, 19, 20, 21, 23, 24] none0' mixed (by decide +kernel) (by decide +kernel) (by decide +kernel) rfl ext_none ?_
  simp -implicitDefEqProofs only [decide_true, beq_self_eq_true, List.length_map, hat, hbd, bdAv_width, Tm.av_agg, Tm.av_width, take_all (Tm.av_cells _), agg_cells (Tm.av_agg _), Tm.av_cells, Nat.le_refl, hw, evb0, evb1, evb2, evb3, evb4, evb5, evb6, evb7, evb8, evb9, ↓evZ2, ↓evZ3, ↓Int.cast_ofNat_Int, implies_true, ne_eq, or_false, false_or, or_self, gt_iff_lt, isMut, aFn, List.contains, List.elem, aBox, aField, aLoad, sub, aNil, aPick, aExt, aFld, gd, noJunk, plainOp, aBuildSlice, aBuild, aFill, aParts, seqParts, fitAll, List.range', ↓reduceIte, reduceCtorEq, Nat.reduceEqDiff, Nat.reduceAdd, Nat.reduceLeDiff, Nat.reduceMul, Nat.reduceLT, Nat.reduceBEq, Int.reduceEq, tf_L1_25]
  refine (c_impl_TermSame t t _).to ?_
  rw [tm_same_refl]
  simp -implicitDefEqProofs only [List.length_map, hat, hbd, bdAv_width, Tm.av_agg, Tm.av_width, take_all (Tm.av_cells _), agg_cells (Tm.av_agg _), Tm.av_cells, Nat.le_refl, hw, evb0, evb1, evb2, evb3, evb4, evb5, evb6, evb7, evb8, evb9, ↓evZ2, ↓evZ3, ↓Int.cast_ofNat_Int, implies_true, ne_eq, or_false, false_or, or_self, gt_iff_lt, isMut, aFn, List.contains, List.elem, aBox, aField, aLoad, sub, aNil, aPick, aExt, aFld, gd, noJunk, plainOp, aBuildSlice, aBuild, aFill, aParts, seqParts, fitAll, List.range', ↓reduceIte, reduceCtorEq, Nat.reduceEqDiff, Nat.reduceAdd, Nat.reduceLeDiff, Nat.reduceMul, Nat.reduceLT, Nat.reduceBEq, Int.reduceEq, tf_L1_25]
  refine ⟨ext_none, ?_⟩
  exact ⟨(), LessL.mk (by simp -implicitDefEqProofs only [List.length_map, hat, hbd, bdAv_width, Tm.av_agg, Tm.av_width, take_all (Tm.av_cells _), agg_cells (Tm.av_agg _), Tm.av_cells, Nat.le_refl, hw, evb0, evb1, evb2, evb3, evb4, evb5, evb6, evb7, evb8, evb9, ↓evZ2, ↓evZ3, ↓Int.cast_ofNat_Int, implies_true, ne_eq, or_false, false_or, or_self, gt_iff_lt, isMut, aFn, List.contains, List.elem, aBox, aField, aLoad, sub, aNil, aPick, aExt, aFld, gd, noJunk, plainOp, aBuildSlice, aBuild, aFill, aParts, seqParts, fitAll, List.range', ↓reduceIte, reduceCtorEq, Nat.reduceEqDiff, Nat.reduceAdd, Nat.reduceLeDiff, Nat.reduceMul, Nat.reduceLT, Nat.reduceBEq, Int.reduceEq, tf_L1_25])⟩
theorem zero_cells : (Value.agg #[Value.int IntKind.i64 0, Value.int IntKind.i64 0, Value.string ⟨#[]⟩, Value.slice none 0 0]).cells.toList.map ofConst = [.int .i64 0, .int .i64 0, .str ⟨#[]⟩, .fslice []] := rfl
end Go.AW

/- Unification either way: plain facts. -/
namespace Go.AW
set_option linter.unusedSimpArgs false
set_option linter.unusedVariables false

theorem sumL_map_le {f : Tm → Nat} {g : Tm → Tm} : ∀ {l : List Tm}, (∀ x ∈ l, f x ≤ f (g x)) → sumL f l ≤ sumL f (l.map g)
  | [], _ => Nat.le_refl _
  | x :: l, h => by
    have h1 := h x (by simp)
    have h2 := sumL_map_le (f := f) (g := g) (l := l) fun y hy => h y (by simp [hy])
    simp only [List.map_cons, sumL]
    omega
/-- What is replaced is not made smaller. -/
theorem nodes_le (f : Int → Tm) : ∀ t : Tm, t.cv = true → t.nodes ≤ (t.mapv f).nodes := by
  intro t
  induction t using Tm.ind with
  | h k n s ts ih =>
    intro h
    obtain ⟨h1, h2⟩ := Tm.cv_mk.1 h
    by_cases hk : k = 1
    · rw [Tm.mapv_var f hk, Tm.nodes_mk, (h1 hk).2]
      exact Tm.nodes_pos _
    · rw [Tm.mapv_mk f hk, Tm.nodes_mk, Tm.nodes_mk]
      have := sumL_map_le (f := Tm.nodes) (g := Tm.mapv f) fun x hx => ih x hx (h2 x hx)
      omega
theorem flat_le (f : Int → Tm) : ∀ (t : Tm) (d : Nat), t.cv = true → (t.mapv f).flat d = true → t.flat d = true := by
  intro t
  induction t using Tm.ind with
  | h k n s ts ih =>
    intro d h hf
    obtain ⟨h1, h2⟩ := Tm.cv_mk.1 h
    cases d with
    | zero => rw [Tm.flat_zero] at hf; cases hf
    | succ d =>
      by_cases hk : k = 1
      · rw [Tm.flat_succ, (h1 hk).2]; rfl
      · rw [Tm.mapv_mk f hk, Tm.flat_succ, List.all_map, List.all_eq_true] at hf
        rw [Tm.flat_succ, List.all_eq_true]
        exact fun x hx => ih x hx d (h2 x hx) (hf x hx)
theorem valid_le {f : Int → Tm} {t : Tm} (h : t.okA = true) (hv : (t.mapv f).valid = true) : t.valid = true := by
  have h1 := Tm.valid_okA hv
  rw [Tm.valid_iff h1, Bool.and_eq_true, decide_eq_true_eq] at hv
  rw [Tm.valid_iff h, Bool.and_eq_true, decide_eq_true_eq]
  exact ⟨flat_le f t 30 (Tm.okA_cv t h) hv.1, Nat.le_trans (nodes_le f t (Tm.okA_cv t h)) hv.2⟩
theorem vr_valid {n : Int} (h : n ∈ V25) : (vr n).valid = true := by
  rw [Tm.valid_iff (vr_okA h)]
  rfl

theorem Sol.none (θ : Int → Tm) : Sol θ Sub.none := fun n u h => by cases h
theorem Unif.free {a b : Tm} {r : Bool} {σ : Sub} {tr : List Int} (h : Unif a b r σ tr) {θ : Int → Tm} (e : a.mapv θ = b.mapv θ) : r = true ∧ Sol θ σ := h.uni.gen θ (Sol.none θ) (by simp [e])
/-- A larger solution is valid: so is this one. -/
theorem Unif.fits {a b : Tm} {r : Bool} {σ : Sub} {tr : List Int} (h : Unif a b r σ tr) {θ : Int → Tm} (S : Sol θ σ) (hv : ∀ n ∈ V25, (θ n).valid = true) : ((bindsOf σ).all fun x => x.2.valid) = true := by
  obtain ⟨rk, B, G⟩ := h.uni.good.rs
  rw [List.all_eq_true]
  intro x hx
  obtain ⟨i, u, hi, hs, rfl⟩ := bindsOf_mem hx
  have hV : (i : Int) ∈ V25 := mem_V25.2 ⟨by omega, by omega⟩
  show (u.mapv (rs σ)).valid = true
  rw [← G.bound hs]
  have e := G.factor S (i : Int)
  exact valid_le (f := θ) (G.okA h.okA i hV) (by rw [e]; exact hv i hV)
/-! ### Variants -/
/-- Numbered anew. -/
def renum (t : Tm) : Tm := t.mapv fun v => vr (idxI v (t.vars []) 0)
/-! ### Either way -/
end Go.AW


/- Draws: a term and bindings. -/
namespace Go.AW
open Go.Proofs.Try
set_option linter.unusedSimpArgs false
set_option maxRecDepth 100000

theorem tf_D5_49 : (type_of% tI_2) ∧ (type_of% zI_2) ∧ (type_of% Go.Proofs.Try.underlying2) ∧ (type_of% tI_3) ∧ (type_of% zI_3) ∧ (type_of% Go.Proofs.Try.underlying3) ∧ (type_of% tI_4) ∧ (type_of% zI_4) ∧ (type_of% Go.Proofs.Try.underlying4) ∧ (type_of% tI_5) ∧ (type_of% zI_5) ∧ (type_of% Go.Proofs.Try.underlying5) ∧ (type_of% tI_6) ∧ (type_of% zI_6) ∧ (type_of% Go.Proofs.Try.underlying6) ∧ (type_of% tI_7) ∧ (type_of% zI_7) ∧ (type_of% fI_7_0) ∧ (type_of% fI_7_1) ∧ (type_of% fI_7_2) ∧ (type_of% fI_7_3) ∧ (type_of% bI_7) ∧ (type_of% tI_8) ∧ (type_of% zI_8) ∧ (type_of% fI_8_0) ∧ (type_of% fI_8_1) ∧ (type_of% fI_8_2) ∧ (type_of% fI_8_3) ∧ (type_of% bI_8) ∧ (type_of% tI_9) ∧ (type_of% zI_9) ∧ (type_of% Go.Proofs.Try.underlying9) ∧ (type_of% tI_10) ∧ (type_of% zI_10) ∧ (type_of% Go.Proofs.Try.underlying10) ∧ (type_of% tI_11) ∧ (type_of% zI_11) ∧ (type_of% Go.Proofs.Try.underlying11) ∧ (type_of% tI_12) ∧ (type_of% zI_12) ∧ (type_of% Go.Proofs.Try.underlying12) ∧ (type_of% tI_13) ∧ (type_of% zI_13) ∧ (type_of% fI_13_0) ∧ (type_of% fI_13_1) ∧ (type_of% bI_13) ∧ (type_of% tI_15) ∧ (type_of% zI_15) ∧ (type_of% tI_16) ∧ (type_of% zI_16) ∧ (type_of% tI_17) ∧ (type_of% zI_17) ∧ (type_of% tI_18) ∧ (type_of% zI_18) ∧ (type_of% fI_18_0) ∧ (type_of% bI_18) ∧ (type_of% tI_22) ∧ (type_of% zI_22) ∧ (type_of% eI_22) ∧ (type_of% eB_22) ∧ (type_of% eZ_22) ∧ (type_of% Go.Proofs.Try.underlying22) ∧ (type_of% tI_23) ∧ (type_of% zI_23) ∧ (type_of% fI_23_0) ∧ (type_of% bI_23) ∧ (type_of% tI_24) ∧ (type_of% zI_24) ∧ (type_of% fI_24_0) ∧ (type_of% bI_24) ∧ (type_of% tI_27) ∧ (type_of% zI_27) ∧ (type_of% eI_27) ∧ (type_of% eB_27) ∧ (type_of% eZ_27) ∧ (type_of% Go.Proofs.Try.underlying27) ∧ (type_of% tI_31) ∧ (type_of% zI_31) ∧ (type_of% fI_31_0) ∧ (type_of% bI_31) ∧ (type_of% tI_32) ∧ (type_of% zI_32) ∧ (type_of% fI_32_0) ∧ (type_of% bI_32) ∧ (type_of% tI_39) ∧ (type_of% zI_39) ∧ (type_of% eI_39) ∧ (type_of% eB_39) ∧ (type_of% eZ_39) ∧ (type_of% Go.Proofs.Try.underlying39) ∧ (type_of% tI_41) ∧ (type_of% zI_41) ∧ (type_of% fI_41_0) ∧ (type_of% fI_41_1) ∧ (type_of% fI_41_2) ∧ (type_of% fI_41_3) ∧ (type_of% bI_41) ∧ (type_of% tI_44) ∧ (type_of% zI_44) ∧ (type_of% eI_44) ∧ (type_of% eB_44) ∧ (type_of% eZ_44) ∧ (type_of% Go.Proofs.Try.underlying44) ∧ (type_of% tI_54) ∧ (type_of% zI_54) ∧ (type_of% fI_54_0) ∧ (type_of% fI_54_1) ∧ (type_of% bI_54) ∧ (type_of% tI_64) ∧ (type_of% zI_64) ∧ (type_of% fI_64_0) ∧ (type_of% fI_64_1) ∧ (type_of% bI_64) ∧ (type_of% tI_93) ∧ (type_of% zI_93) ∧ (type_of% eI_93) ∧ (type_of% eB_93) ∧ (type_of% eZ_93) ∧ (type_of% Go.Proofs.Try.underlying93) ∧ (type_of% tI_140) ∧ (type_of% zI_140) := ⟨tI_2, zI_2, Go.Proofs.Try.underlying2, tI_3, zI_3, Go.Proofs.Try.underlying3, tI_4, zI_4, Go.Proofs.Try.underlying4, tI_5, zI_5, Go.Proofs.Try.underlying5, tI_6, zI_6, Go.Proofs.Try.underlying6, tI_7, zI_7, fI_7_0, fI_7_1, fI_7_2, fI_7_3, bI_7, tI_8, zI_8, fI_8_0, fI_8_1, fI_8_2, fI_8_3, bI_8, tI_9, zI_9, Go.Proofs.Try.underlying9, tI_10, zI_10, Go.Proofs.Try.underlying10, tI_11, zI_11, Go.Proofs.Try.underlying11, tI_12, zI_12, Go.Proofs.Try.underlying12, tI_13, zI_13, fI_13_0, fI_13_1, bI_13, tI_15, zI_15, tI_16, zI_16, tI_17, zI_17, tI_18, zI_18, fI_18_0, bI_18, tI_22, zI_22, eI_22, eB_22, eZ_22, Go.Proofs.Try.underlying22, tI_23, zI_23, fI_23_0, bI_23, tI_24, zI_24, fI_24_0, bI_24, tI_27, zI_27, eI_27, eB_27, eZ_27, Go.Proofs.Try.underlying27, tI_31, zI_31, fI_31_0, bI_31, tI_32, zI_32, fI_32_0, bI_32, tI_39, zI_39, eI_39, eB_39, eZ_39, Go.Proofs.Try.underlying39, tI_41, zI_41, fI_41_0, fI_41_1, fI_41_2, fI_41_3, bI_41, tI_44, zI_44, eI_44, eB_44, eZ_44, Go.Proofs.Try.underlying44, tI_54, zI_54, fI_54_0, fI_54_1, bI_54, tI_64, zI_64, fI_64_0, fI_64_1, bI_64, tI_93, zI_93, eI_93, eB_93, eZ_93, Go.Proofs.Try.underlying93, tI_140, zI_140⟩
theorem c_DrawApplyBinds (bs : List Bt) (st : Store) : ACalls prog 49 [.slice (bs.map byteAv)] st (fun r st' => (∃ (t : Tm) (l : List Bd), r = .tup [t.av, .slice (l.map bdAv)]) ∧ st' = st) := by
  refine ACalls.drop (Q := fun r => ∃ (t : Tm) (l : List Bd), r = .tup [t.av, .slice (l.map bdAv)]) (ACalls.fin ?_)
  refine acalls_fit [1000000] func49 ntmps49 rfl rfl (by kernel_rfl) (by decide +kernel) (by show 1 ≤ _; decide +kernel) ?_
  intro _
  simp -implicitDefEqProofs only [setCells, evb0, evb1, evb2, evb3, evb4, evb5, evb6, evb7, evb8, evb9, ↓evZ2, ↓evZ3, ↓Int.cast_ofNat_Int, implies_true, ne_eq, or_false, false_or, or_self, gt_iff_lt, isMut, aFn, List.contains, List.elem, aBox, aField, aLoad, sub, aNil, aPick, aExt, aFld, gd, noJunk, plainOp, aBuildSlice, aBuild, aFill, aParts, seqParts, fitAll, List.range', ↓reduceIte, reduceCtorEq, Nat.reduceEqDiff, Nat.reduceAdd, Nat.reduceLeDiff, Nat.reduceMul, Nat.reduceLT, Nat.reduceBEq, Int.reduceEq, tf_D5_49]
  intro b2 h2
  refine (c_l18Open bs _).mono ?_
  rintro _ _ ⟨c, bs, rfl, hc, rfl⟩
  have hc2 : c ≠ b2 := by rintro rfl; rw [Store.upd_same] at hc; cases hc
  have hnc : st c = none := by rw [Store.upd_ne _ _ hc2] at hc; exact hc
  simp -implicitDefEqProofs only [setCells, evb0, evb1, evb2, evb3, evb4, evb5, evb6, evb7, evb8, evb9, ↓evZ2, ↓evZ3, ↓Int.cast_ofNat_Int, implies_true, ne_eq, or_false, false_or, or_self, gt_iff_lt, isMut, aFn, List.contains, List.elem, aBox, aField, aLoad, sub, aNil, aPick, aExt, aFld, gd, noJunk, plainOp, aBuildSlice, aBuild, aFill, aParts, seqParts, fitAll, List.range', ↓reduceIte, reduceCtorEq, Nat.reduceEqDiff, Nat.reduceAdd, Nat.reduceLeDiff, Nat.reduceMul, Nat.reduceLT, Nat.reduceBEq, Int.reduceEq, tf_D5_49]
  refine (c_l1Some bs c 0 _ (by omega) RdAt.new).mono ?_
  rintro _ _ ⟨p1, _, hp1, rfl, t, ht, rfl⟩
  rw [Store.upd_upd]
  simp -implicitDefEqProofs only [Tm.av_agg, Tm.av_width, Tm.av_store, Tm.av_junk, Tm.av_cells, setCells, evb0, evb1, evb2, evb3, evb4, evb5, evb6, evb7, evb8, evb9, ↓evZ2, ↓evZ3, ↓Int.cast_ofNat_Int, implies_true, ne_eq, or_false, false_or, or_self, gt_iff_lt, isMut, aFn, List.contains, List.elem, aBox, aField, aLoad, sub, aNil, aPick, aExt, aFld, gd, noJunk, plainOp, aBuildSlice, aBuild, aFill, aParts, seqParts, fitAll, List.range', ↓reduceIte, reduceCtorEq, Nat.reduceEqDiff, Nat.reduceAdd, Nat.reduceLeDiff, Nat.reduceMul, Nat.reduceLT, Nat.reduceBEq, Int.reduceEq, tf_D5_49]
  refine (c_l1Mutate bs c p1 t ht.2 _ (by omega) RdAt.new).mono ?_
  rintro _ _ ⟨p2, _, hp2, rfl, t0, rfl⟩
  rw [Store.upd_upd]
  simp -implicitDefEqProofs only [Tm.av_agg, Tm.av_width, Tm.av_store, Tm.av_junk, Tm.av_cells, setCells, evb0, evb1, evb2, evb3, evb4, evb5, evb6, evb7, evb8, evb9, ↓evZ2, ↓evZ3, ↓Int.cast_ofNat_Int, implies_true, ne_eq, or_false, false_or, or_self, gt_iff_lt, isMut, aFn, List.contains, List.elem, aBox, aField, aLoad, sub, aNil, aPick, aExt, aFld, gd, noJunk, plainOp, aBuildSlice, aBuild, aFill, aParts, seqParts, fitAll, List.range', ↓reduceIte, reduceCtorEq, Nat.reduceEqDiff, Nat.reduceAdd, Nat.reduceLeDiff, Nat.reduceMul, Nat.reduceLT, Nat.reduceBEq, Int.reduceEq, tf_D5_49]
  refine (c_numF [2, 1, 3, 0] (by simp) (by simp) bs c p2 (by omega) _ RdAt.new).mono ?_
  rintro _ _ ⟨y, hy, rfl, rfl⟩
  obtain ⟨n, rfl, hn⟩ : ∃ n : Nat, y = n ∧ n ≤ 3 := by
    simp only [List.mem_cons, List.not_mem_nil, or_false] at hy
    rcases hy with rfl | rfl | rfl | rfl
    · exact ⟨2, rfl, by omega⟩
    · exact ⟨1, rfl, by omega⟩
    · exact ⟨3, rfl, by omega⟩
    · exact ⟨0, rfl, by omega⟩
  rw [Store.upd_upd]
  have hD : ∀ o q, Drops ((st.upd b2 o).upd c (rdC bs q)) st := fun o q => ((Drops.refl _).upd h2).upd hnc
  have hW2 : ∀ q, ((st.upd b2 (.cells [.int .i64 0, .int .i64 0, .str ⟨#[]⟩, .fslice []])).upd c (rdC bs q)) b2 = some (.cells [.int .i64 0, .int .i64 0, .str ⟨#[]⟩, .fslice []]) := fun q => by rw [Store.upd_ne _ _ hc2.symm, Store.upd_same]
  simp -implicitDefEqProofs only [setCells, Tm.av_agg, Tm.av_width, Tm.av_store, Tm.av_junk, Tm.av_cells, accV_agg, accV_width, accV_store, accV_junk, evb0, evb1, evb2, evb3, evb4, evb5, evb6, evb7, evb8, evb9, ↓evZ2, ↓evZ3, ↓Int.cast_ofNat_Int, implies_true, ne_eq, or_false, false_or, or_self, gt_iff_lt, isMut, aFn, List.contains, List.elem, aBox, aField, aLoad, sub, aNil, aPick, aExt, aFld, gd, noJunk, plainOp, aBuildSlice, aBuild, aFill, aParts, seqParts, fitAll, List.range', ↓reduceIte, reduceCtorEq, Nat.reduceEqDiff, Nat.reduceAdd, Nat.reduceLeDiff, Nat.reduceMul, Nat.reduceLT, Nat.reduceBEq, Int.reduceEq, tf_D5_49]
  refine arun_whileK (σ := Nat × Nat × List Bd × Nat) [1000000] [2, 3, 4, 5]
    (fun s => (s.2.2.1.map bdAv ≠ [] → ((st.upd b2 (.cells [.int .i64 0, .int .i64 0, .str ⟨#[]⟩, .fslice []])).upd c (rdC bs s.2.2.2)) s.2.1 = none) ∧ s.2.2.1.length + s.1 ≤ 3 ∧ s.2.2.2 + s.1 * 2000 ≤ 20000)
    (fun s => [(6, accV 5 s.2.1 (s.2.2.1.map bdAv)), (7, .int .i64 s.1)]) (fun s => accS ((st.upd b2 (.cells [.int .i64 0, .int .i64 0, .str ⟨#[]⟩, .fslice []])).upd c (rdC bs s.2.2.2)) s.2.1 (s.2.2.1.map bdAv)) (fun s => s.1) (by decide +kernel)
    ⟨(n, 0, [], p2 + 1), ⟨fun h => absurd rfl h, by simpa using hn, by simp only; omega⟩, LessL.mk (by simp -implicitDefEqProofs only [List.map_nil, accV_nil, accS_nil, setCells, Tm.av_agg, Tm.av_width, Tm.av_store, Tm.av_junk, Tm.av_cells, accV_agg, accV_width, accV_store, accV_junk, evb0, evb1, evb2, evb3, evb4, evb5, evb6, evb7, evb8, evb9, ↓evZ2, ↓evZ3, ↓Int.cast_ofNat_Int, implies_true, ne_eq, or_false, false_or, or_self, gt_iff_lt, isMut, aFn, List.contains, List.elem, aBox, aField, aLoad, sub, aNil, aPick, aExt, aFld, gd, noJunk, plainOp, aBuildSlice, aBuild, aFill, aParts, seqParts, fitAll, List.range', ↓reduceIte, reduceCtorEq, Nat.reduceEqDiff, Nat.reduceAdd, Nat.reduceLeDiff, Nat.reduceMul, Nat.reduceLT, Nat.reduceBEq, Int.reduceEq, tf_D5_49])⟩ ?_
  rintro ⟨i, b, l, q⟩ ⟨i1, i2, i3⟩
  simp only at i1 i2 i3
  simp -implicitDefEqProofs only [setCells, Tm.av_agg, Tm.av_width, Tm.av_store, Tm.av_junk, Tm.av_cells, accV_agg, accV_width, accV_store, accV_junk, evb0, evb1, evb2, evb3, evb4, evb5, evb6, evb7, evb8, evb9, ↓evZ2, ↓evZ3, ↓Int.cast_ofNat_Int, implies_true, ne_eq, or_false, false_or, or_self, gt_iff_lt, isMut, aFn, List.contains, List.elem, aBox, aField, aLoad, sub, aNil, aPick, aExt, aFld, gd, noJunk, plainOp, aBuildSlice, aBuild, aFill, aParts, seqParts, fitAll, List.range', ↓reduceIte, reduceCtorEq, Nat.reduceEqDiff, Nat.reduceAdd, Nat.reduceLeDiff, Nat.reduceMul, Nat.reduceLT, Nat.reduceBEq, Int.reduceEq, tf_D5_49]
  refine cond_split (fun h => ?_) (fun h => ?_)
  · simp only [decide_eq_true_eq] at h
    have hcb : l.map bdAv ≠ [] → c ≠ b := fun h e => by have := i1 h; rw [← e, Store.upd_same] at this; cases this
    have hwi : IntKind.i64.wrap ((i : Int) - 1) = ((i - 1 : Nat) : Int) := by rw [wrap64 (by omega) (by omega)]; omega
    have hR : ∀ q, RdAt (accS ((st.upd b2 (.cells [.int .i64 0, .int .i64 0, .str ⟨#[]⟩, .fslice []])).upd c (rdC bs q)) b (l.map bdAv)) c bs q := fun q => by
      unfold RdAt
      by_cases hl : l.map bdAv = []
      · rw [hl, accS_nil, Store.upd_same]; rfl
      · rw [accS_ne (hcb hl), Store.upd_same]; rfl
    have hup : ∀ q q', (accS ((st.upd b2 (.cells [.int .i64 0, .int .i64 0, .str ⟨#[]⟩, .fslice []])).upd c (rdC bs q)) b (l.map bdAv)).upd c (rdC bs q') = accS ((st.upd b2 (.cells [.int .i64 0, .int .i64 0, .str ⟨#[]⟩, .fslice []])).upd c (rdC bs q')) b (l.map bdAv) := fun q q' => by
      rw [accS_upd hcb, Store.upd_upd]
    have hi : i ≤ 3 := by omega
    simp -implicitDefEqProofs only [setCells, Tm.av_agg, Tm.av_width, Tm.av_store, Tm.av_junk, Tm.av_cells, accV_agg, accV_width, accV_store, accV_junk, evb0, evb1, evb2, evb3, evb4, evb5, evb6, evb7, evb8, evb9, ↓evZ2, ↓evZ3, ↓Int.cast_ofNat_Int, implies_true, ne_eq, or_false, false_or, or_self, gt_iff_lt, isMut, aFn, List.contains, List.elem, aBox, aField, aLoad, sub, aNil, aPick, aExt, aFld, gd, noJunk, plainOp, aBuildSlice, aBuild, aFill, aParts, seqParts, fitAll, List.range', ↓reduceIte, reduceCtorEq, Nat.reduceEqDiff, Nat.reduceAdd, Nat.reduceLeDiff, Nat.reduceMul, Nat.reduceLT, Nat.reduceBEq, Int.reduceEq, tf_D5_49]
    refine (c_numF [0, 1, 2, 3, 30] (by simp) (by simp) bs c q (by omega) _ (hR q)).mono ?_
    rintro _ _ ⟨m, _, rfl, rfl⟩
    rw [hup]
    simp -implicitDefEqProofs only [setCells, Tm.av_agg, Tm.av_width, Tm.av_store, Tm.av_junk, Tm.av_cells, accV_agg, accV_width, accV_store, accV_junk, evb0, evb1, evb2, evb3, evb4, evb5, evb6, evb7, evb8, evb9, ↓evZ2, ↓evZ3, ↓Int.cast_ofNat_Int, implies_true, ne_eq, or_false, false_or, or_self, gt_iff_lt, isMut, aFn, List.contains, List.elem, aBox, aField, aLoad, sub, aNil, aPick, aExt, aFld, gd, noJunk, plainOp, aBuildSlice, aBuild, aFill, aParts, seqParts, fitAll, List.range', ↓reduceIte, reduceCtorEq, Nat.reduceEqDiff, Nat.reduceAdd, Nat.reduceLeDiff, Nat.reduceMul, Nat.reduceLT, Nat.reduceBEq, Int.reduceEq, tf_D5_49]
    refine (c_numF [2, 1, 3] (by simp) (by simp) bs c (q + 1) (by omega) _ (hR _)).mono ?_
    rintro _ _ ⟨d, hd, rfl, rfl⟩
    obtain ⟨d, rfl, hd3⟩ : ∃ n : Nat, d = n ∧ n ≤ 3 := by
      simp only [List.mem_cons, List.not_mem_nil, or_false] at hd
      rcases hd with rfl | rfl | rfl
      · exact ⟨2, rfl, by omega⟩
      · exact ⟨1, rfl, by omega⟩
      · exact ⟨3, rfl, by omega⟩
    have hpw : 4 ^ (d + 2) ≤ 1024 := by
      have := Nat.pow_le_pow_right (n := 4) (by omega) (show d + 2 ≤ 5 by omega)
      simpa using this
    rw [hup]
    simp -implicitDefEqProofs only [setCells, Tm.av_agg, Tm.av_width, Tm.av_store, Tm.av_junk, Tm.av_cells, accV_agg, accV_width, accV_store, accV_junk, evb0, evb1, evb2, evb3, evb4, evb5, evb6, evb7, evb8, evb9, ↓evZ2, ↓evZ3, ↓Int.cast_ofNat_Int, implies_true, ne_eq, or_false, false_or, or_self, gt_iff_lt, isMut, aFn, List.contains, List.elem, aBox, aField, aLoad, sub, aNil, aPick, aExt, aFld, gd, noJunk, plainOp, aBuildSlice, aBuild, aFill, aParts, seqParts, fitAll, List.range', ↓reduceIte, reduceCtorEq, Nat.reduceEqDiff, Nat.reduceAdd, Nat.reduceLeDiff, Nat.reduceMul, Nat.reduceLT, Nat.reduceBEq, Int.reduceEq, tf_D5_49]
    refine (c_l1Draw bs c d (q + 1 + 1) _ (by omega) (by omega) (hR _)).mono ?_
    rintro _ _ ⟨q1, hq1, hq1', rfl, u, hu, rfl⟩
    rw [hup]
    simp -implicitDefEqProofs only [setCells, Tm.av_agg, Tm.av_width, Tm.av_store, Tm.av_junk, Tm.av_cells, accV_agg, accV_width, accV_store, accV_junk, evb0, evb1, evb2, evb3, evb4, evb5, evb6, evb7, evb8, evb9, ↓evZ2, ↓evZ3, ↓Int.cast_ofNat_Int, implies_true, ne_eq, or_false, false_or, or_self, gt_iff_lt, isMut, aFn, List.contains, List.elem, aBox, aField, aLoad, sub, aNil, aPick, aExt, aFld, gd, noJunk, plainOp, aBuildSlice, aBuild, aFill, aParts, seqParts, fitAll, List.range', ↓reduceIte, reduceCtorEq, Nat.reduceEqDiff, Nat.reduceAdd, Nat.reduceLeDiff, Nat.reduceMul, Nat.reduceLT, Nat.reduceBEq, Int.reduceEq, tf_D5_49]
    refine (c_l1Mutate bs c q1 u hu.2 _ (by omega) (hR _)).mono ?_
    rintro _ _ ⟨q2, hq2, hq2', rfl, u2, rfl⟩
    rw [hup]
    simp -implicitDefEqProofs only [setCells, Tm.av_agg, Tm.av_width, Tm.av_store, Tm.av_junk, Tm.av_cells, accV_agg, accV_width, accV_store, accV_junk, evb0, evb1, evb2, evb3, evb4, evb5, evb6, evb7, evb8, evb9, ↓evZ2, ↓evZ3, ↓Int.cast_ofNat_Int, implies_true, ne_eq, or_false, false_or, or_self, gt_iff_lt, isMut, aFn, List.contains, List.elem, aBox, aField, aLoad, sub, aNil, aPick, aExt, aFld, gd, noJunk, plainOp, aBuildSlice, aBuild, aFill, aParts, seqParts, fitAll, List.range', ↓reduceIte, reduceCtorEq, Nat.reduceEqDiff, Nat.reduceAdd, Nat.reduceLeDiff, Nat.reduceMul, Nat.reduceLT, Nat.reduceBEq, Int.reduceEq, tf_D5_49]
    rw [bdAv_mk]
    have hlen' : (l.map bdAv).length ≤ 3 := by rw [List.length_map]; omega
    have i1' : l.map bdAv ≠ [] → ((st.upd b2 (.cells [.int .i64 0, .int .i64 0, .str ⟨#[]⟩, .fslice []])).upd c (rdC bs q2)) b = none := fun h => by
      have := i1 h
      rw [Store.upd_ne _ _ (Ne.symm (hcb h))] at this ⊢
      exact this
    refine acc_append eI_44 eB_44 eZ_44 rfl rfl (by intro e he; simp only [List.mem_cons, List.not_mem_nil, or_false] at he; subst he; exact ⟨bdAv_width _, bdAv_store _⟩) (bd_widths _) i1' (by simp only [List.length_cons, List.length_nil]; omega) (by simp only [List.length_cons, List.length_nil]; omega) (fun b' hb' => ?_)
    rw [show l.map bdAv ++ [bdAv (m, u2)] = (l ++ [(m, u2)]).map bdAv by simp] at hb' ⊢
    simp -implicitDefEqProofs only [hwi, setCells, Tm.av_agg, Tm.av_width, Tm.av_store, Tm.av_junk, Tm.av_cells, accV_agg, accV_width, accV_store, accV_junk, evb0, evb1, evb2, evb3, evb4, evb5, evb6, evb7, evb8, evb9, ↓evZ2, ↓evZ3, ↓Int.cast_ofNat_Int, implies_true, ne_eq, or_false, false_or, or_self, gt_iff_lt, isMut, aFn, List.contains, List.elem, aBox, aField, aLoad, sub, aNil, aPick, aExt, aFld, gd, noJunk, plainOp, aBuildSlice, aBuild, aFill, aParts, seqParts, fitAll, List.range', ↓reduceIte, reduceCtorEq, Nat.reduceEqDiff, Nat.reduceAdd, Nat.reduceLeDiff, Nat.reduceMul, Nat.reduceLT, Nat.reduceBEq, Int.reduceEq, tf_D5_49]
    exact ⟨(i - 1, b', l ++ [(m, u2)], q2), by simp only; omega, ⟨hb', by simp only [List.length_append, List.length_cons, List.length_nil]; omega, by simp only; omega⟩, LessL.mk (by simp -implicitDefEqProofs only [setCells, Tm.av_agg, Tm.av_width, Tm.av_store, Tm.av_junk, Tm.av_cells, accV_agg, accV_width, accV_store, accV_junk, evb0, evb1, evb2, evb3, evb4, evb5, evb6, evb7, evb8, evb9, ↓evZ2, ↓evZ3, ↓Int.cast_ofNat_Int, implies_true, ne_eq, or_false, false_or, or_self, gt_iff_lt, isMut, aFn, List.contains, List.elem, aBox, aField, aLoad, sub, aNil, aPick, aExt, aFld, gd, noJunk, plainOp, aBuildSlice, aBuild, aFill, aParts, seqParts, fitAll, List.range', ↓reduceIte, reduceCtorEq, Nat.reduceEqDiff, Nat.reduceAdd, Nat.reduceLeDiff, Nat.reduceMul, Nat.reduceLT, Nat.reduceBEq, Int.reduceEq, tf_D5_49])⟩
  · have hb2 : l.map bdAv ≠ [] → b2 ≠ b := fun h e => by have := i1 h; rw [← e, hW2] at this; cases this
    have h2o : accS ((st.upd b2 (.cells [.int .i64 0, .int .i64 0, .str ⟨#[]⟩, .fslice []])).upd c (rdC bs q)) b (l.map bdAv) b2 = some (.cells [.int .i64 0, .int .i64 0, .str ⟨#[]⟩, .fslice []]) := by
      by_cases hl : l.map bdAv = []
      · rw [hl, accS_nil, hW2]
      · rw [accS_ne (hb2 hl), hW2]
    simp -implicitDefEqProofs only [h2o, take_all (Tm.av_cells _), agg_cells (Tm.av_agg _), Nat.le_refl, setCells, Tm.av_agg, Tm.av_width, Tm.av_store, Tm.av_junk, Tm.av_cells, accV_agg, accV_width, accV_store, accV_junk, evb0, evb1, evb2, evb3, evb4, evb5, evb6, evb7, evb8, evb9, ↓evZ2, ↓evZ3, ↓Int.cast_ofNat_Int, implies_true, ne_eq, or_false, false_or, or_self, gt_iff_lt, isMut, aFn, List.contains, List.elem, aBox, aField, aLoad, sub, aNil, aPick, aExt, aFld, gd, noJunk, plainOp, aBuildSlice, aBuild, aFill, aParts, seqParts, fitAll, List.range', ↓reduceIte, reduceCtorEq, Nat.reduceEqDiff, Nat.reduceAdd, Nat.reduceLeDiff, Nat.reduceMul, Nat.reduceLT, Nat.reduceBEq, Int.reduceEq, tf_D5_49]
    rw [accS_upd hb2]
    exact ⟨b, l.map bdAv, _, rfl, fun h => by rw [Store.upd_ne _ _ (Ne.symm (hb2 h))]; exact i1 h, bd_junks l, ⟨5, bd_widths l⟩, ((hD _ _).upd h2), t0, l, by simp only [fin_agg, fin_tup, fin_int, fin_bool, fin_str, fin_slice, fin_fslice, fin_pptr, fin_ptr, fin_func, fin_map, fin_undef, fin_accV, tm_fin, List.map_cons, List.map_nil]⟩
end Go.AW


/- Unification is most general: instances, the law. -/
namespace Go.AW
open Go.Proofs.Try
set_option linter.unusedSimpArgs false
set_option maxRecDepth 100000

/-- What was told agrees with θ. -/
def Told (st : Store) (m : Nat) (θ : Int → Tm) (st' : Store) : Prop := ∃ τ : Sub, (∀ n u, τ n = some u → u = θ n) ∧ st' = st.upd m (.map (mapOf τ))

theorem tf_L4_108 : (type_of% tI_2) ∧ (type_of% zI_2) ∧ (type_of% Go.Proofs.Try.underlying2) ∧ (type_of% tI_3) ∧ (type_of% zI_3) ∧ (type_of% Go.Proofs.Try.underlying3) ∧ (type_of% tI_4) ∧ (type_of% zI_4) ∧ (type_of% Go.Proofs.Try.underlying4) ∧ (type_of% tI_5) ∧ (type_of% zI_5) ∧ (type_of% Go.Proofs.Try.underlying5) ∧ (type_of% tI_6) ∧ (type_of% zI_6) ∧ (type_of% Go.Proofs.Try.underlying6) ∧ (type_of% tI_7) ∧ (type_of% zI_7) ∧ (type_of% fI_7_0) ∧ (type_of% fI_7_1) ∧ (type_of% fI_7_2) ∧ (type_of% fI_7_3) ∧ (type_of% bI_7) ∧ (type_of% tI_8) ∧ (type_of% zI_8) ∧ (type_of% fI_8_0) ∧ (type_of% fI_8_1) ∧ (type_of% fI_8_2) ∧ (type_of% fI_8_3) ∧ (type_of% bI_8) ∧ (type_of% tI_9) ∧ (type_of% zI_9) ∧ (type_of% Go.Proofs.Try.underlying9) ∧ (type_of% tI_10) ∧ (type_of% zI_10) ∧ (type_of% Go.Proofs.Try.underlying10) ∧ (type_of% tI_11) ∧ (type_of% zI_11) ∧ (type_of% Go.Proofs.Try.underlying11) ∧ (type_of% tI_12) ∧ (type_of% zI_12) ∧ (type_of% Go.Proofs.Try.underlying12) ∧ (type_of% tI_13) ∧ (type_of% zI_13) ∧ (type_of% fI_13_0) ∧ (type_of% fI_13_1) ∧ (type_of% bI_13) ∧ (type_of% tI_14) ∧ (type_of% zI_14) ∧ (type_of% fI_14_0) ∧ (type_of% fI_14_1) ∧ (type_of% bI_14) ∧ (type_of% tI_15) ∧ (type_of% zI_15) ∧ (type_of% tI_19) ∧ (type_of% zI_19) ∧ (type_of% fI_19_0) ∧ (type_of% bI_19) ∧ (type_of% tI_27) ∧ (type_of% zI_27) ∧ (type_of% eI_27) ∧ (type_of% eB_27) ∧ (type_of% eZ_27) ∧ (type_of% Go.Proofs.Try.underlying27) ∧ (type_of% tI_41) ∧ (type_of% zI_41) ∧ (type_of% fI_41_0) ∧ (type_of% fI_41_1) ∧ (type_of% fI_41_2) ∧ (type_of% fI_41_3) ∧ (type_of% bI_41) ∧ (type_of% tI_53) ∧ (type_of% zI_53) ∧ (type_of% fI_53_0) ∧ (type_of% fI_53_1) ∧ (type_of% bI_53) ∧ (type_of% tI_54) ∧ (type_of% zI_54) ∧ (type_of% fI_54_0) ∧ (type_of% fI_54_1) ∧ (type_of% bI_54) ∧ (type_of% tI_58) ∧ (type_of% zI_58) ∧ (type_of% fI_58_0) ∧ (type_of% fI_58_1) ∧ (type_of% bI_58) ∧ (type_of% tI_60) ∧ (type_of% zI_60) ∧ (type_of% eI_60) ∧ (type_of% eB_60) ∧ (type_of% eZ_60) ∧ (type_of% Go.Proofs.Try.underlying60) ∧ (type_of% tI_64) ∧ (type_of% zI_64) ∧ (type_of% fI_64_0) ∧ (type_of% fI_64_1) ∧ (type_of% bI_64) ∧ (type_of% tI_73) ∧ (type_of% zI_73) ∧ (type_of% eI_73) ∧ (type_of% eB_73) ∧ (type_of% eZ_73) ∧ (type_of% Go.Proofs.Try.underlying73) ∧ (type_of% tI_74) ∧ (type_of% zI_74) ∧ (type_of% fI_74_0) ∧ (type_of% fI_74_1) ∧ (type_of% fI_74_2) ∧ (type_of% fI_74_3) ∧ (type_of% fI_74_4) ∧ (type_of% fI_74_5) ∧ (type_of% bI_74) ∧ (type_of% tI_147) ∧ (type_of% zI_147) ∧ (type_of% Go.Proofs.Try.underlying147) ∧ (type_of% tI_168) ∧ (type_of% zI_168) ∧ (type_of% eI_168) ∧ (type_of% eB_168) ∧ (type_of% eZ_168) ∧ (type_of% Go.Proofs.Try.underlying168) ∧ (type_of% tI_170) ∧ (type_of% zI_170) ∧ (type_of% fI_170_0) ∧ (type_of% fI_170_1) ∧ (type_of% fI_170_2) ∧ (type_of% fI_170_3) ∧ (type_of% fI_170_4) ∧ (type_of% fI_170_5) ∧ (type_of% bI_170) := ⟨tI_2, zI_2, Go.Proofs.Try.underlying2, tI_3, zI_3, Go.Proofs.Try.underlying3, tI_4, zI_4, Go.Proofs.Try.underlying4, tI_5, zI_5, Go.Proofs.Try.underlying5, tI_6, zI_6, Go.Proofs.Try.underlying6, tI_7, zI_7, fI_7_0, fI_7_1, fI_7_2, fI_7_3, bI_7, tI_8, zI_8, fI_8_0, fI_8_1, fI_8_2, fI_8_3, bI_8, tI_9, zI_9, Go.Proofs.Try.underlying9, tI_10, zI_10, Go.Proofs.Try.underlying10, tI_11, zI_11, Go.Proofs.Try.underlying11, tI_12, zI_12, Go.Proofs.Try.underlying12, tI_13, zI_13, fI_13_0, fI_13_1, bI_13, tI_14, zI_14, fI_14_0, fI_14_1, bI_14, tI_15, zI_15, tI_19, zI_19, fI_19_0, bI_19, tI_27, zI_27, eI_27, eB_27, eZ_27, Go.Proofs.Try.underlying27, tI_41, zI_41, fI_41_0, fI_41_1, fI_41_2, fI_41_3, bI_41, tI_53, zI_53, fI_53_0, fI_53_1, bI_53, tI_54, zI_54, fI_54_0, fI_54_1, bI_54, tI_58, zI_58, fI_58_0, fI_58_1, bI_58, tI_60, zI_60, eI_60, eB_60, eZ_60, Go.Proofs.Try.underlying60, tI_64, zI_64, fI_64_0, fI_64_1, bI_64, tI_73, zI_73, eI_73, eB_73, eZ_73, Go.Proofs.Try.underlying73, tI_74, zI_74, fI_74_0, fI_74_1, fI_74_2, fI_74_3, fI_74_4, fI_74_5, bI_74, tI_147, zI_147, Go.Proofs.Try.underlying147, tI_168, zI_168, eI_168, eB_168, eZ_168, Go.Proofs.Try.underlying168, tI_170, zI_170, fI_170_0, fI_170_1, fI_170_2, fI_170_3, fI_170_4, fI_170_5, bI_170⟩
theorem c_instance (θ : Int → Tm) (m : Nat) : ∀ (t : Tm) (st : Store) (τ : Sub), t.small = true → (∀ n u, τ n = some u → u = θ n) → st m = some (.map (mapOf τ)) →
    ACalls prog 108 [(t.mapv θ).av, t.av, .map m] st (fun r st' => r = .bool true ∧ Told st m θ st')
  | .mk k n s ts, st, τ, hsm, hτ, hm => by
    obtain ⟨hlen, hsms⟩ := Tm.small_mk hsm
    have IH := fun (x : Tm) (hx : x ∈ ts) st τ => c_instance θ m x st τ (hsms x hx)
    have hl := look_sub (P := prog) (n := n) hm underlying147 underlying3 zV_41
    have hself : st = st.upd m (.map (mapOf τ)) := by
      funext y
      simp only [Store.upd]
      split
      · rename_i e; rw [e, hm]
      · rfl
    rw [Tm.av_mk k n s ts]
    by_cases hk : k = 1
    · rw [Tm.mapv_var θ hk]
      subst hk
      refine acalls_fit [1000000] func108 ntmps108 rfl rfl (by kernel_rfl) (by decide +kernel) (by show 3 ≤ _; decide +kernel) ?_
      intro _
      simp -implicitDefEqProofs only [decide_true, Tm.av_agg, Tm.av_width, Tm.av_store, Tm.av_junk, Tm.av_cells, Nat.le_refl, take_all (Tm.av_cells _), agg_cells (Tm.av_agg _), hl, List.length_map, evb0, evb1, evb2, evb3, evb4, evb5, evb6, evb7, evb8, evb9, ↓evZ2, ↓evZ3, ↓Int.cast_ofNat_Int, implies_true, ne_eq, or_false, false_or, or_self, gt_iff_lt, isMut, aFn, List.contains, List.elem, aBox, aField, aLoad, sub, aNil, aPick, aExt, aFld, gd, noJunk, plainOp, aBuildSlice, aBuild, aFill, aParts, seqParts, fitAll, List.range', ↓reduceIte, reduceCtorEq, Nat.reduceEqDiff, Nat.reduceAdd, Nat.reduceLeDiff, Nat.reduceMul, Nat.reduceLT, Nat.reduceBEq, Int.reduceEq, tf_L4_108]
      cases hτn : τ n with
      | none =>
        simp -implicitDefEqProofs only [found, Tm.av_agg, Tm.av_width, Tm.av_store, Tm.av_junk, Tm.av_cells, Nat.le_refl, take_all (Tm.av_cells _), agg_cells (Tm.av_agg _), hl, List.length_map, evb0, evb1, evb2, evb3, evb4, evb5, evb6, evb7, evb8, evb9, ↓evZ2, ↓evZ3, ↓Int.cast_ofNat_Int, implies_true, ne_eq, or_false, false_or, or_self, gt_iff_lt, isMut, aFn, List.contains, List.elem, aBox, aField, aLoad, sub, aNil, aPick, aExt, aFld, gd, noJunk, plainOp, aBuildSlice, aBuild, aFill, aParts, seqParts, fitAll, List.range', ↓reduceIte, reduceCtorEq, Nat.reduceEqDiff, Nat.reduceAdd, Nat.reduceLeDiff, Nat.reduceMul, Nat.reduceLT, Nat.reduceBEq, Int.reduceEq, tf_L4_108]
        refine upd_sub hm underlying147 underlying3 ?_
        simp -implicitDefEqProofs only [Tm.av_agg, Tm.av_width, Tm.av_store, Tm.av_junk, Tm.av_cells, Nat.le_refl, take_all (Tm.av_cells _), agg_cells (Tm.av_agg _), hl, List.length_map, evb0, evb1, evb2, evb3, evb4, evb5, evb6, evb7, evb8, evb9, ↓evZ2, ↓evZ3, ↓Int.cast_ofNat_Int, implies_true, ne_eq, or_false, false_or, or_self, gt_iff_lt, isMut, aFn, List.contains, List.elem, aBox, aField, aLoad, sub, aNil, aPick, aExt, aFld, gd, noJunk, plainOp, aBuildSlice, aBuild, aFill, aParts, seqParts, fitAll, List.range', ↓reduceIte, reduceCtorEq, Nat.reduceEqDiff, Nat.reduceAdd, Nat.reduceLeDiff, Nat.reduceMul, Nat.reduceLT, Nat.reduceBEq, Int.reduceEq, tf_L4_108]
        refine ⟨τ.set n (θ n), fun v u hv => ?_, rfl⟩
        simp only [Sub.set] at hv
        split at hv
        · rename_i e; cases hv; rw [e]
        · exact hτ v u hv
      | some u =>
        obtain rfl := hτ n u hτn
        simp -implicitDefEqProofs only [found, Tm.av_agg, Tm.av_width, Tm.av_store, Tm.av_junk, Tm.av_cells, Nat.le_refl, take_all (Tm.av_cells _), agg_cells (Tm.av_agg _), hl, List.length_map, evb0, evb1, evb2, evb3, evb4, evb5, evb6, evb7, evb8, evb9, ↓evZ2, ↓evZ3, ↓Int.cast_ofNat_Int, implies_true, ne_eq, or_false, false_or, or_self, gt_iff_lt, isMut, aFn, List.contains, List.elem, aBox, aField, aLoad, sub, aNil, aPick, aExt, aFld, gd, noJunk, plainOp, aBuildSlice, aBuild, aFill, aParts, seqParts, fitAll, List.range', ↓reduceIte, reduceCtorEq, Nat.reduceEqDiff, Nat.reduceAdd, Nat.reduceLeDiff, Nat.reduceMul, Nat.reduceLT, Nat.reduceBEq, Int.reduceEq, tf_L4_108]
        refine (c_impl_TermSame (θ n) (θ n) _).to ?_
        rw [tm_same_refl]
        simp -implicitDefEqProofs only [Tm.av_agg, Tm.av_width, Tm.av_store, Tm.av_junk, Tm.av_cells, Nat.le_refl, take_all (Tm.av_cells _), agg_cells (Tm.av_agg _), hl, List.length_map, evb0, evb1, evb2, evb3, evb4, evb5, evb6, evb7, evb8, evb9, ↓evZ2, ↓evZ3, ↓Int.cast_ofNat_Int, implies_true, ne_eq, or_false, false_or, or_self, gt_iff_lt, isMut, aFn, List.contains, List.elem, aBox, aField, aLoad, sub, aNil, aPick, aExt, aFld, gd, noJunk, plainOp, aBuildSlice, aBuild, aFill, aParts, seqParts, fitAll, List.range', ↓reduceIte, reduceCtorEq, Nat.reduceEqDiff, Nat.reduceAdd, Nat.reduceLeDiff, Nat.reduceMul, Nat.reduceLT, Nat.reduceBEq, Int.reduceEq, tf_L4_108]
        exact ⟨τ, hτ, hself⟩
    · rw [Tm.mapv_mk θ hk, Tm.av_mk]
      refine acalls_fit [1000000] func108 ntmps108 rfl rfl (by kernel_rfl) (by decide +kernel) (by show 3 ≤ _; decide +kernel) ?_
      intro _
      simp -implicitDefEqProofs only [decide_true, decide_false, beq_self_eq_true, Tm.av_agg, Tm.av_width, Tm.av_store, Tm.av_junk, Tm.av_cells, Nat.le_refl, List.length_map, hk, evb0, evb1, evb2, evb3, evb4, evb5, evb6, evb7, evb8, evb9, ↓evZ2, ↓evZ3, ↓Int.cast_ofNat_Int, implies_true, ne_eq, or_false, false_or, or_self, gt_iff_lt, isMut, aFn, List.contains, List.elem, aBox, aField, aLoad, sub, aNil, aPick, aExt, aFld, gd, noJunk, plainOp, aBuildSlice, aBuild, aFill, aParts, seqParts, fitAll, List.range', ↓reduceIte, reduceCtorEq, Nat.reduceEqDiff, Nat.reduceAdd, Nat.reduceLeDiff, Nat.reduceMul, Nat.reduceLT, Nat.reduceBEq, Int.reduceEq, tf_L4_108]
      refine arun_each (σ := Sub × Store) [1000000] [2, 3, 4, 59] ts (fun i p => (∀ n u, p.1 n = some u → u = θ n) ∧ p.2 = st.upd m (.map (mapOf p.1))) (fun i p => [(6, .bool false), (60, .int .i64 i)]) (fun _ p => p.2) (by decide +kernel) ⟨(τ, st), ⟨hτ, hself⟩, LessL.mk (by simp -implicitDefEqProofs only [Tm.av_agg, Tm.av_width, Tm.av_store, Tm.av_junk, Tm.av_cells, Nat.le_refl, List.length_map, hk, evb0, evb1, evb2, evb3, evb4, evb5, evb6, evb7, evb8, evb9, ↓evZ2, ↓evZ3, ↓Int.cast_ofNat_Int, implies_true, ne_eq, or_false, false_or, or_self, gt_iff_lt, isMut, aFn, List.contains, List.elem, aBox, aField, aLoad, sub, aNil, aPick, aExt, aFld, gd, noJunk, plainOp, aBuildSlice, aBuild, aFill, aParts, seqParts, fitAll, List.range', ↓reduceIte, reduceCtorEq, Nat.reduceEqDiff, Nat.reduceAdd, Nat.reduceLeDiff, Nat.reduceMul, Nat.reduceLT, Nat.reduceBEq, Int.reduceEq, tf_L4_108])⟩ (fun i x p hx hlt hlt' hdr hinv => ?_) (fun p hge hinv => ?_)
      case refine_2 =>
        obtain ⟨τ1, s1⟩ := p
        obtain ⟨i1, hs1⟩ := hinv
        simp only at i1 hs1
        subst hs1
        simp -implicitDefEqProofs only [hge, Tm.av_agg, Tm.av_width, Tm.av_store, Tm.av_junk, Tm.av_cells, Nat.le_refl, List.length_map, hk, evb0, evb1, evb2, evb3, evb4, evb5, evb6, evb7, evb8, evb9, ↓evZ2, ↓evZ3, ↓Int.cast_ofNat_Int, implies_true, ne_eq, or_false, false_or, or_self, gt_iff_lt, isMut, aFn, List.contains, List.elem, aBox, aField, aLoad, sub, aNil, aPick, aExt, aFld, gd, noJunk, plainOp, aBuildSlice, aBuild, aFill, aParts, seqParts, fitAll, List.range', ↓reduceIte, reduceCtorEq, Nat.reduceEqDiff, Nat.reduceAdd, Nat.reduceLeDiff, Nat.reduceMul, Nat.reduceLT, Nat.reduceBEq, Int.reduceEq, tf_L4_108]
        exact ⟨τ1, i1, rfl⟩
      obtain ⟨τ1, s1⟩ := p
      obtain ⟨i1, hs1⟩ := hinv
      simp only at i1 hs1
      subst hs1
      have hw := wrap64 (n := (i : Int) + 1) (by omega) (by omega)
      have hmem := List.mem_of_getElem? hx
      have hx' : (ts.map (Tm.mapv θ))[i]? = some (x.mapv θ) := by rw [List.getElem?_map, hx]; rfl
      have hat1 := ev_at (av := Tm.av) eI_27 hx (Tm.av_width x)
      have hat2 := ev_at (av := Tm.av) eI_27 hx' (Tm.av_width _)
      simp -implicitDefEqProofs only [hlt', Tm.av_agg, Tm.av_width, Tm.av_store, Tm.av_junk, Tm.av_cells, Nat.le_refl, List.length_map, hk, hat1, hat2, hw, evb0, evb1, evb2, evb3, evb4, evb5, evb6, evb7, evb8, evb9, ↓evZ2, ↓evZ3, ↓Int.cast_ofNat_Int, implies_true, ne_eq, or_false, false_or, or_self, gt_iff_lt, isMut, aFn, List.contains, List.elem, aBox, aField, aLoad, sub, aNil, aPick, aExt, aFld, gd, noJunk, plainOp, aBuildSlice, aBuild, aFill, aParts, seqParts, fitAll, List.range', ↓reduceIte, reduceCtorEq, Nat.reduceEqDiff, Nat.reduceAdd, Nat.reduceLeDiff, Nat.reduceMul, Nat.reduceLT, Nat.reduceBEq, Int.reduceEq, tf_L4_108]
      refine arun_planX [(0, 1), (1, 1), (2, 1), (3, 1), (4, 1), (5, 1), (6, 1), (7, 1), (8, 1), (9, 1), (10, 1), (11, 0), (12, 1)] [0, 1, 2, 3, 4, 5, 6, 7, 8, 9, 10, 12] none0' mixed (by decide +kernel) (by decide +kernel) (by decide +kernel) rfl ext_none ?_
      simp -implicitDefEqProofs only [Tm.av_agg, Tm.av_width, Tm.av_store, Tm.av_junk, Tm.av_cells, Nat.le_refl, List.length_map, hk, hat1, hat2, hw, evb0, evb1, evb2, evb3, evb4, evb5, evb6, evb7, evb8, evb9, ↓evZ2, ↓evZ3, ↓Int.cast_ofNat_Int, implies_true, ne_eq, or_false, false_or, or_self, gt_iff_lt, isMut, aFn, List.contains, List.elem, aBox, aField, aLoad, sub, aNil, aPick, aExt, aFld, gd, noJunk, plainOp, aBuildSlice, aBuild, aFill, aParts, seqParts, fitAll, List.range', ↓reduceIte, reduceCtorEq, Nat.reduceEqDiff, Nat.reduceAdd, Nat.reduceLeDiff, Nat.reduceMul, Nat.reduceLT, Nat.reduceBEq, Int.reduceEq, tf_L4_108]
      refine (IH x hmem (st.upd m (.map (mapOf τ1))) τ1 i1 (Store.upd_same _ _ _)).mono ?_
      rintro _ _ ⟨rfl, τ2, h2, rfl⟩
      rw [Store.upd_upd]
      simp -implicitDefEqProofs only [Tm.av_agg, Tm.av_width, Tm.av_store, Tm.av_junk, Tm.av_cells, Nat.le_refl, List.length_map, hk, hat1, hat2, hw, evb0, evb1, evb2, evb3, evb4, evb5, evb6, evb7, evb8, evb9, ↓evZ2, ↓evZ3, ↓Int.cast_ofNat_Int, implies_true, ne_eq, or_false, false_or, or_self, gt_iff_lt, isMut, aFn, List.contains, List.elem, aBox, aField, aLoad, sub, aNil, aPick, aExt, aFld, gd, noJunk, plainOp, aBuildSlice, aBuild, aFill, aParts, seqParts, fitAll, List.range', ↓reduceIte, reduceCtorEq, Nat.reduceEqDiff, Nat.reduceAdd, Nat.reduceLeDiff, Nat.reduceMul, Nat.reduceLT, Nat.reduceBEq, Int.reduceEq, tf_L4_108]
      exact ⟨ext_none, (τ2, _), ⟨h2, rfl⟩, LessL.mk (by simp -implicitDefEqProofs only [Tm.av_agg, Tm.av_width, Tm.av_store, Tm.av_junk, Tm.av_cells, Nat.le_refl, List.length_map, hk, hat1, hat2, hw, evb0, evb1, evb2, evb3, evb4, evb5, evb6, evb7, evb8, evb9, ↓evZ2, ↓evZ3, ↓Int.cast_ofNat_Int, implies_true, ne_eq, or_false, false_or, or_self, gt_iff_lt, isMut, aFn, List.contains, List.elem, aBox, aField, aLoad, sub, aNil, aPick, aExt, aFld, gd, noJunk, plainOp, aBuildSlice, aBuild, aFill, aParts, seqParts, fitAll, List.range', ↓reduceIte, reduceCtorEq, Nat.reduceEqDiff, Nat.reduceAdd, Nat.reduceLeDiff, Nat.reduceMul, Nat.reduceLT, Nat.reduceBEq, Int.reduceEq, tf_L4_108])⟩
termination_by t => SizeOf.sizeOf t
decreasing_by have := List.sizeOf_lt_of_mem hx; simp only [Tm.mk.sizeOf_spec]; omega

theorem tf_L4_50 : (type_of% tI_2) ∧ (type_of% zI_2) ∧ (type_of% Go.Proofs.Try.underlying2) ∧ (type_of% tI_3) ∧ (type_of% zI_3) ∧ (type_of% Go.Proofs.Try.underlying3) ∧ (type_of% tI_4) ∧ (type_of% zI_4) ∧ (type_of% Go.Proofs.Try.underlying4) ∧ (type_of% tI_5) ∧ (type_of% zI_5) ∧ (type_of% Go.Proofs.Try.underlying5) ∧ (type_of% tI_6) ∧ (type_of% zI_6) ∧ (type_of% Go.Proofs.Try.underlying6) ∧ (type_of% tI_8) ∧ (type_of% zI_8) ∧ (type_of% fI_8_0) ∧ (type_of% fI_8_1) ∧ (type_of% fI_8_2) ∧ (type_of% fI_8_3) ∧ (type_of% bI_8) ∧ (type_of% tI_9) ∧ (type_of% zI_9) ∧ (type_of% Go.Proofs.Try.underlying9) ∧ (type_of% tI_12) ∧ (type_of% zI_12) ∧ (type_of% Go.Proofs.Try.underlying12) ∧ (type_of% tI_13) ∧ (type_of% zI_13) ∧ (type_of% fI_13_0) ∧ (type_of% fI_13_1) ∧ (type_of% bI_13) ∧ (type_of% tI_14) ∧ (type_of% zI_14) ∧ (type_of% fI_14_0) ∧ (type_of% fI_14_1) ∧ (type_of% bI_14) ∧ (type_of% tI_15) ∧ (type_of% zI_15) ∧ (type_of% tI_17) ∧ (type_of% zI_17) ∧ (type_of% tI_27) ∧ (type_of% zI_27) ∧ (type_of% eI_27) ∧ (type_of% eB_27) ∧ (type_of% eZ_27) ∧ (type_of% Go.Proofs.Try.underlying27) ∧ (type_of% tI_41) ∧ (type_of% zI_41) ∧ (type_of% fI_41_0) ∧ (type_of% fI_41_1) ∧ (type_of% fI_41_2) ∧ (type_of% fI_41_3) ∧ (type_of% bI_41) ∧ (type_of% tI_147) ∧ (type_of% zI_147) ∧ (type_of% Go.Proofs.Try.underlying147) := ⟨tI_2, zI_2, Go.Proofs.Try.underlying2, tI_3, zI_3, Go.Proofs.Try.underlying3, tI_4, zI_4, Go.Proofs.Try.underlying4, tI_5, zI_5, Go.Proofs.Try.underlying5, tI_6, zI_6, Go.Proofs.Try.underlying6, tI_8, zI_8, fI_8_0, fI_8_1, fI_8_2, fI_8_3, bI_8, tI_9, zI_9, Go.Proofs.Try.underlying9, tI_12, zI_12, Go.Proofs.Try.underlying12, tI_13, zI_13, fI_13_0, fI_13_1, bI_13, tI_14, zI_14, fI_14_0, fI_14_1, bI_14, tI_15, zI_15, tI_17, zI_17, tI_27, zI_27, eI_27, eB_27, eZ_27, Go.Proofs.Try.underlying27, tI_41, zI_41, fI_41_0, fI_41_1, fI_41_2, fI_41_3, bI_41, tI_147, zI_147, Go.Proofs.Try.underlying147⟩
theorem c_impl_InstanceOf (θ : Int → Tm) (t : Tm) (h1 : (t.mapv θ).valid = true) (h2 : t.valid = true) (st : Store) : ACalls prog 50 [(t.mapv θ).av, t.av] st (fun r st' => r = .bool true ∧ st' = st) := by
  refine ACalls.done ?_
  refine acalls_fit [1000000] func50 ntmps50 rfl rfl (by kernel_rfl) (by decide +kernel) (by show 2 ≤ _; decide +kernel) ?_
  intro _
  have hva := fun s => c_impl_TermValid (t.mapv θ) s
  have hvb := fun s => c_impl_TermValid t s
  rw [h1] at hva
  rw [h2] at hvb
  generalize hx : t.mapv θ = x at *
  simp -implicitDefEqProofs only [Tm.av_agg, Tm.av_width, Tm.av_store, Tm.av_junk, Tm.av_cells, Nat.le_refl, take_all (Tm.av_cells _), agg_cells (Tm.av_agg _), evb0, evb1, evb2, evb3, evb4, evb5, evb6, evb7, evb8, evb9, ↓evZ2, ↓evZ3, ↓Int.cast_ofNat_Int, implies_true, ne_eq, or_false, false_or, or_self, gt_iff_lt, isMut, aFn, List.contains, List.elem, aBox, aField, aLoad, sub, aNil, aPick, aExt, aFld, gd, noJunk, plainOp, aBuildSlice, aBuild, aFill, aParts, seqParts, fitAll, List.range', ↓reduceIte, reduceCtorEq, Nat.reduceEqDiff, Nat.reduceAdd, Nat.reduceLeDiff, Nat.reduceMul, Nat.reduceLT, Nat.reduceBEq, Int.reduceEq, tf_L4_50]
  refine (hva _).to ?_
  simp -implicitDefEqProofs only [beq_self_eq_true, Tm.av_agg, Tm.av_width, Tm.av_store, Tm.av_junk, Tm.av_cells, Nat.le_refl, take_all (Tm.av_cells _), agg_cells (Tm.av_agg _), evb0, evb1, evb2, evb3, evb4, evb5, evb6, evb7, evb8, evb9, ↓evZ2, ↓evZ3, ↓Int.cast_ofNat_Int, implies_true, ne_eq, or_false, false_or, or_self, gt_iff_lt, isMut, aFn, List.contains, List.elem, aBox, aField, aLoad, sub, aNil, aPick, aExt, aFld, gd, noJunk, plainOp, aBuildSlice, aBuild, aFill, aParts, seqParts, fitAll, List.range', ↓reduceIte, reduceCtorEq, Nat.reduceEqDiff, Nat.reduceAdd, Nat.reduceLeDiff, Nat.reduceMul, Nat.reduceLT, Nat.reduceBEq, Int.reduceEq, tf_L4_50]
  refine (hvb _).to ?_
  simp -implicitDefEqProofs only [beq_self_eq_true, Tm.av_agg, Tm.av_width, Tm.av_store, Tm.av_junk, Tm.av_cells, Nat.le_refl, take_all (Tm.av_cells _), agg_cells (Tm.av_agg _), evb0, evb1, evb2, evb3, evb4, evb5, evb6, evb7, evb8, evb9, ↓evZ2, ↓evZ3, ↓Int.cast_ofNat_Int, implies_true, ne_eq, or_false, false_or, or_self, gt_iff_lt, isMut, aFn, List.contains, List.elem, aBox, aField, aLoad, sub, aNil, aPick, aExt, aFld, gd, noJunk, plainOp, aBuildSlice, aBuild, aFill, aParts, seqParts, fitAll, List.range', ↓reduceIte, reduceCtorEq, Nat.reduceEqDiff, Nat.reduceAdd, Nat.reduceLeDiff, Nat.reduceMul, Nat.reduceLT, Nat.reduceBEq, Int.reduceEq, tf_L4_50]
  intro m hm
  have hc := c_instance θ m t (st.upd m (.map (mapOf Sub.none))) Sub.none (Tm.valid_small h2) (fun n u h => by cases h) (Store.upd_same _ _ _)
  rw [hx] at hc
  refine hc.mono ?_
  rintro _ _ ⟨rfl, τ, _, rfl⟩
  simp -implicitDefEqProofs only [Tm.av_agg, Tm.av_width, Tm.av_store, Tm.av_junk, Tm.av_cells, Nat.le_refl, take_all (Tm.av_cells _), agg_cells (Tm.av_agg _), evb0, evb1, evb2, evb3, evb4, evb5, evb6, evb7, evb8, evb9, ↓evZ2, ↓evZ3, ↓Int.cast_ofNat_Int, implies_true, ne_eq, or_false, false_or, or_self, gt_iff_lt, isMut, aFn, List.contains, List.elem, aBox, aField, aLoad, sub, aNil, aPick, aExt, aFld, gd, noJunk, plainOp, aBuildSlice, aBuild, aFill, aParts, seqParts, fitAll, List.range', ↓reduceIte, reduceCtorEq, Nat.reduceEqDiff, Nat.reduceAdd, Nat.reduceLeDiff, Nat.reduceMul, Nat.reduceLT, Nat.reduceBEq, Int.reduceEq, tf_L4_50]
  exact ⟨rfl, (Drops.refl _).upd hm⟩

theorem appB_some {a x : Tm} {bs : List Bd} (h : appB a bs = some x) : a.valid = true ∧ (bs.all fun b => b.2.valid) = true ∧ x = a.mapv (subB bs) ∧ x.valid = true := by
  unfold appB at h
  split at h
  · rename_i hc
    cases h
    exact ⟨hc.1, hc.2.1, rfl, hc.2.2⟩
  · cases h
theorem subB_valid {bs : List Bd} (h : (bs.all fun b => b.2.valid) = true) {n : Int} (hn : n ∈ V25) : (subB bs n).valid = true := by
  unfold subB
  have key : ∀ l : List Bd, (∀ b ∈ l, b.2.valid = true) → ∀ x, findB l n = some x → x.valid = true := by
    intro l
    induction l with
    | nil => intro _ x h; cases h
    | cons y l ih =>
      obtain ⟨m, t⟩ := y
      intro hl x hx
      simp only [findB] at hx
      split at hx
      · cases hx; exact hl (m, _) (by simp)
      · exact ih (fun b hb => hl b (by simp [hb])) x hx
  cases hf : findB bs n with
  | none => exact vr_valid hn
  | some x => exact key bs (List.all_eq_true.1 h) x hf
theorem uniB_general {a b x : Tm} {os : List Bd} (h1 : appB a os = some x) (h2 : appB b os = some x) :
    ∃ bs, uniB a b = some bs ∧ ∀ z, appB a bs = some z → z.valid = true ∧ x.valid = true ∧ x = z.mapv (subB os) := by
  obtain ⟨ha, ho, hx, hxv⟩ := appB_some h1
  obtain ⟨hb, _, hx', _⟩ := appB_some h2
  obtain ⟨r, σ, tr, hU, hR⟩ := unif_of ha hb
  obtain ⟨rfl, S⟩ := hU.free (θ := subB os) (by rw [← hx, hx'])
  have hv := hU.fits S fun n hn => subB_valid ho hn
  obtain ⟨rk, B, G⟩ := hU.uni.good.rs
  refine ⟨bindsOf σ, ?_, fun z hz => ?_⟩
  · unfold uniB
    rw [hR]
    exact if_pos ⟨ha, hb, rfl, hv⟩
  · obtain ⟨_, _, hz1, hz2⟩ := appB_some hz
    refine ⟨hz2, hxv, ?_⟩
    rw [hz1, hU.subB, G.factorT S a, hx]

theorem tf_L4_9 : (type_of% tI_2) ∧ (type_of% zI_2) ∧ (type_of% Go.Proofs.Try.underlying2) ∧ (type_of% tI_3) ∧ (type_of% zI_3) ∧ (type_of% Go.Proofs.Try.underlying3) ∧ (type_of% tI_4) ∧ (type_of% zI_4) ∧ (type_of% Go.Proofs.Try.underlying4) ∧ (type_of% tI_5) ∧ (type_of% zI_5) ∧ (type_of% Go.Proofs.Try.underlying5) ∧ (type_of% tI_6) ∧ (type_of% zI_6) ∧ (type_of% Go.Proofs.Try.underlying6) ∧ (type_of% tI_7) ∧ (type_of% zI_7) ∧ (type_of% fI_7_0) ∧ (type_of% fI_7_1) ∧ (type_of% fI_7_2) ∧ (type_of% fI_7_3) ∧ (type_of% bI_7) ∧ (type_of% tI_8) ∧ (type_of% zI_8) ∧ (type_of% fI_8_0) ∧ (type_of% fI_8_1) ∧ (type_of% fI_8_2) ∧ (type_of% fI_8_3) ∧ (type_of% bI_8) ∧ (type_of% tI_9) ∧ (type_of% zI_9) ∧ (type_of% Go.Proofs.Try.underlying9) ∧ (type_of% tI_10) ∧ (type_of% zI_10) ∧ (type_of% Go.Proofs.Try.underlying10) ∧ (type_of% tI_11) ∧ (type_of% zI_11) ∧ (type_of% Go.Proofs.Try.underlying11) ∧ (type_of% tI_12) ∧ (type_of% zI_12) ∧ (type_of% Go.Proofs.Try.underlying12) ∧ (type_of% tI_13) ∧ (type_of% zI_13) ∧ (type_of% fI_13_0) ∧ (type_of% fI_13_1) ∧ (type_of% bI_13) ∧ (type_of% tI_17) ∧ (type_of% zI_17) ∧ (type_of% tI_19) ∧ (type_of% zI_19) ∧ (type_of% fI_19_0) ∧ (type_of% bI_19) ∧ (type_of% tI_22) ∧ (type_of% zI_22) ∧ (type_of% eI_22) ∧ (type_of% eB_22) ∧ (type_of% eZ_22) ∧ (type_of% Go.Proofs.Try.underlying22) ∧ (type_of% tI_23) ∧ (type_of% zI_23) ∧ (type_of% fI_23_0) ∧ (type_of% bI_23) ∧ (type_of% tI_24) ∧ (type_of% zI_24) ∧ (type_of% fI_24_0) ∧ (type_of% bI_24) ∧ (type_of% tI_39) ∧ (type_of% zI_39) ∧ (type_of% eI_39) ∧ (type_of% eB_39) ∧ (type_of% eZ_39) ∧ (type_of% Go.Proofs.Try.underlying39) ∧ (type_of% tI_40) ∧ (type_of% zI_40) ∧ (type_of% fI_40_0) ∧ (type_of% fI_40_1) ∧ (type_of% fI_40_2) ∧ (type_of% fI_40_3) ∧ (type_of% bI_40) ∧ (type_of% tI_41) ∧ (type_of% zI_41) ∧ (type_of% fI_41_0) ∧ (type_of% fI_41_1) ∧ (type_of% fI_41_2) ∧ (type_of% fI_41_3) ∧ (type_of% bI_41) ∧ (type_of% tI_44) ∧ (type_of% zI_44) ∧ (type_of% eI_44) ∧ (type_of% eB_44) ∧ (type_of% eZ_44) ∧ (type_of% Go.Proofs.Try.underlying44) ∧ (type_of% tI_56) ∧ (type_of% zI_56) ∧ (type_of% eI_56) ∧ (type_of% eB_56) ∧ (type_of% eZ_56) ∧ (type_of% Go.Proofs.Try.underlying56) ∧ (type_of% tI_57) ∧ (type_of% zI_57) ∧ (type_of% fI_57_0) ∧ (type_of% fI_57_1) ∧ (type_of% bI_57) ∧ (type_of% tI_58) ∧ (type_of% zI_58) ∧ (type_of% fI_58_0) ∧ (type_of% fI_58_1) ∧ (type_of% bI_58) ∧ (type_of% tI_64) ∧ (type_of% zI_64) ∧ (type_of% fI_64_0) ∧ (type_of% fI_64_1) ∧ (type_of% bI_64) ∧ (type_of% tI_93) ∧ (type_of% zI_93) ∧ (type_of% eI_93) ∧ (type_of% eB_93) ∧ (type_of% eZ_93) ∧ (type_of% Go.Proofs.Try.underlying93) := ⟨tI_2, zI_2, Go.Proofs.Try.underlying2, tI_3, zI_3, Go.Proofs.Try.underlying3, tI_4, zI_4, Go.Proofs.Try.underlying4, tI_5, zI_5, Go.Proofs.Try.underlying5, tI_6, zI_6, Go.Proofs.Try.underlying6, tI_7, zI_7, fI_7_0, fI_7_1, fI_7_2, fI_7_3, bI_7, tI_8, zI_8, fI_8_0, fI_8_1, fI_8_2, fI_8_3, bI_8, tI_9, zI_9, Go.Proofs.Try.underlying9, tI_10, zI_10, Go.Proofs.Try.underlying10, tI_11, zI_11, Go.Proofs.Try.underlying11, tI_12, zI_12, Go.Proofs.Try.underlying12, tI_13, zI_13, fI_13_0, fI_13_1, bI_13, tI_17, zI_17, tI_19, zI_19, fI_19_0, bI_19, tI_22, zI_22, eI_22, eB_22, eZ_22, Go.Proofs.Try.underlying22, tI_23, zI_23, fI_23_0, bI_23, tI_24, zI_24, fI_24_0, bI_24, tI_39, zI_39, eI_39, eB_39, eZ_39, Go.Proofs.Try.underlying39, tI_40, zI_40, fI_40_0, fI_40_1, fI_40_2, fI_40_3, bI_40, tI_41, zI_41, fI_41_0, fI_41_1, fI_41_2, fI_41_3, bI_41, tI_44, zI_44, eI_44, eB_44, eZ_44, Go.Proofs.Try.underlying44, tI_56, zI_56, eI_56, eB_56, eZ_56, Go.Proofs.Try.underlying56, tI_57, zI_57, fI_57_0, fI_57_1, bI_57, tI_58, zI_58, fI_58_0, fI_58_1, bI_58, tI_64, zI_64, fI_64_0, fI_64_1, bI_64, tI_93, zI_93, eI_93, eB_93, eZ_93, Go.Proofs.Try.underlying93⟩
theorem c_FnUnifyGeneral (code more : List Bt) (st : Store) : ACalls prog 9 [.slice (code.map byteAv), .slice (more.map byteAv)] st (fun r _ => r = .bool true) := by
  refine acalls_fit [1000000] func9 ntmps9 rfl rfl (by kernel_rfl) (by decide +kernel) (by show 2 ≤ _; decide +kernel) ?_
  intro _
  simp -implicitDefEqProofs only [List.length_map, setCells, evb0, evb1, evb2, evb3, evb4, evb5, evb6, evb7, evb8, evb9, ↓evZ2, ↓evZ3, ↓Int.cast_ofNat_Int, implies_true, ne_eq, or_false, false_or, or_self, gt_iff_lt, isMut, aFn, List.contains, List.elem, aBox, aField, aLoad, sub, aNil, aPick, aExt, aFld, gd, noJunk, plainOp, aBuildSlice, aBuild, aFill, aParts, seqParts, fitAll, List.range', ↓reduceIte, reduceCtorEq, Nat.reduceEqDiff, Nat.reduceAdd, Nat.reduceLeDiff, Nat.reduceMul, Nat.reduceLT, Nat.reduceBEq, Int.reduceEq, tf_L4_9]
  refine opsG_split (fun h0 => ?_) (fun h0 => ?_)
  case refine_2 =>
    simp -implicitDefEqProofs only [h0, List.length_map, setCells, evb0, evb1, evb2, evb3, evb4, evb5, evb6, evb7, evb8, evb9, ↓evZ2, ↓evZ3, ↓Int.cast_ofNat_Int, implies_true, ne_eq, or_false, false_or, or_self, gt_iff_lt, isMut, aFn, List.contains, List.elem, aBox, aField, aLoad, sub, aNil, aPick, aExt, aFld, gd, noJunk, plainOp, aBuildSlice, aBuild, aFill, aParts, seqParts, fitAll, List.range', ↓reduceIte, reduceCtorEq, Nat.reduceEqDiff, Nat.reduceAdd, Nat.reduceLeDiff, Nat.reduceMul, Nat.reduceLT, Nat.reduceBEq, Int.reduceEq, tf_L4_9]
  simp -implicitDefEqProofs only [h0, List.length_map, setCells, evb0, evb1, evb2, evb3, evb4, evb5, evb6, evb7, evb8, evb9, ↓evZ2, ↓evZ3, ↓Int.cast_ofNat_Int, implies_true, ne_eq, or_false, false_or, or_self, gt_iff_lt, isMut, aFn, List.contains, List.elem, aBox, aField, aLoad, sub, aNil, aPick, aExt, aFld, gd, noJunk, plainOp, aBuildSlice, aBuild, aFill, aParts, seqParts, fitAll, List.range', ↓reduceIte, reduceCtorEq, Nat.reduceEqDiff, Nat.reduceAdd, Nat.reduceLeDiff, Nat.reduceMul, Nat.reduceLT, Nat.reduceBEq, Int.reduceEq, tf_L4_9]
  refine cond_split (fun h1 => ?_) (fun h1 => ?_)
  · simp -implicitDefEqProofs only [List.length_map, setCells, evb0, evb1, evb2, evb3, evb4, evb5, evb6, evb7, evb8, evb9, ↓evZ2, ↓evZ3, ↓Int.cast_ofNat_Int, implies_true, ne_eq, or_false, false_or, or_self, gt_iff_lt, isMut, aFn, List.contains, List.elem, aBox, aField, aLoad, sub, aNil, aPick, aExt, aFld, gd, noJunk, plainOp, aBuildSlice, aBuild, aFill, aParts, seqParts, fitAll, List.range', ↓reduceIte, reduceCtorEq, Nat.reduceEqDiff, Nat.reduceAdd, Nat.reduceLeDiff, Nat.reduceMul, Nat.reduceLT, Nat.reduceBEq, Int.reduceEq, tf_L4_9]
  simp -implicitDefEqProofs only [List.length_map, setCells, evb0, evb1, evb2, evb3, evb4, evb5, evb6, evb7, evb8, evb9, ↓evZ2, ↓evZ3, ↓Int.cast_ofNat_Int, implies_true, ne_eq, or_false, false_or, or_self, gt_iff_lt, isMut, aFn, List.contains, List.elem, aBox, aField, aLoad, sub, aNil, aPick, aExt, aFld, gd, noJunk, plainOp, aBuildSlice, aBuild, aFill, aParts, seqParts, fitAll, List.range', ↓reduceIte, reduceCtorEq, Nat.reduceEqDiff, Nat.reduceAdd, Nat.reduceLeDiff, Nat.reduceMul, Nat.reduceLT, Nat.reduceBEq, Int.reduceEq, tf_L4_9]
  refine (c_DrawUnifyTerms code _).mono ?_
  rintro _ s1 ⟨⟨a, b, rfl⟩, rfl⟩
  simp -implicitDefEqProofs only [take_all (Tm.av_cells a), agg_cells (Tm.av_agg a), take_all (Tm.av_cells b), agg_cells (Tm.av_agg b), Tm.av_agg, Tm.av_width, Tm.av_store, Tm.av_junk, Tm.av_cells, Nat.le_refl, setCells, evb0, evb1, evb2, evb3, evb4, evb5, evb6, evb7, evb8, evb9, ↓evZ2, ↓evZ3, ↓Int.cast_ofNat_Int, implies_true, ne_eq, or_false, false_or, or_self, gt_iff_lt, isMut, aFn, List.contains, List.elem, aBox, aField, aLoad, sub, aNil, aPick, aExt, aFld, gd, noJunk, plainOp, aBuildSlice, aBuild, aFill, aParts, seqParts, fitAll, List.range', ↓reduceIte, reduceCtorEq, Nat.reduceEqDiff, Nat.reduceAdd, Nat.reduceLeDiff, Nat.reduceMul, Nat.reduceLT, Nat.reduceBEq, Int.reduceEq, tf_L4_9]
  intro b3 h3 b4 h4
  have h43 : b4 ≠ b3 := by rintro rfl; rw [Store.upd_same] at h4; cases h4
  have hn4 : s1 b4 = none := by rw [Store.upd_ne _ _ h43] at h4; exact h4
  simp -implicitDefEqProofs only [Tm.av_agg, Tm.av_width, Tm.av_store, Tm.av_junk, Tm.av_cells, Nat.le_refl, setCells, h43, h43.symm, zero_cells, take_all (Tm.av_cells a), agg_cells (Tm.av_agg a), take_all (Tm.av_cells b), agg_cells (Tm.av_agg b), evb0, evb1, evb2, evb3, evb4, evb5, evb6, evb7, evb8, evb9, ↓evZ2, ↓evZ3, ↓Int.cast_ofNat_Int, implies_true, ne_eq, or_false, false_or, or_self, gt_iff_lt, isMut, aFn, List.contains, List.elem, aBox, aField, aLoad, sub, aNil, aPick, aExt, aFld, gd, noJunk, plainOp, aBuildSlice, aBuild, aFill, aParts, seqParts, fitAll, List.range', ↓reduceIte, reduceCtorEq, Nat.reduceEqDiff, Nat.reduceAdd, Nat.reduceLeDiff, Nat.reduceMul, Nat.reduceLT, Nat.reduceBEq, Int.reduceEq, tf_L4_9]
  have hci := fun s => c_impl_UnifyTerms a b s
  have hcs := fun s => c_spec_UnifyTerms a b s
  obtain ⟨bs, f, hbf, hsome⟩ : ∃ (bs : List Bd) (f : Bool), uniAv (uniB a b) = .tup [.slice (bs.map bdAv), .bool f] ∧ ∀ l, uniB a b = some l → bs = l ∧ f = true := by
    cases uniB a b with
    | none => exact ⟨[], false, rfl, fun l h => by cases h⟩
    | some bs => exact ⟨bs, true, rfl, fun l h => by cases h; exact ⟨rfl, rfl⟩⟩
  rw [hbf] at hci hcs
  refine (hci _).to ?_
  simp -implicitDefEqProofs only [Tm.av_agg, Tm.av_width, Tm.av_store, Tm.av_junk, Tm.av_cells, Nat.le_refl, setCells, h43, h43.symm, zero_cells, take_all (Tm.av_cells a), agg_cells (Tm.av_agg a), take_all (Tm.av_cells b), agg_cells (Tm.av_agg b), evb0, evb1, evb2, evb3, evb4, evb5, evb6, evb7, evb8, evb9, ↓evZ2, ↓evZ3, ↓Int.cast_ofNat_Int, implies_true, ne_eq, or_false, false_or, or_self, gt_iff_lt, isMut, aFn, List.contains, List.elem, aBox, aField, aLoad, sub, aNil, aPick, aExt, aFld, gd, noJunk, plainOp, aBuildSlice, aBuild, aFill, aParts, seqParts, fitAll, List.range', ↓reduceIte, reduceCtorEq, Nat.reduceEqDiff, Nat.reduceAdd, Nat.reduceLeDiff, Nat.reduceMul, Nat.reduceLT, Nat.reduceBEq, Int.reduceEq, tf_L4_9]
  refine (hcs _).to ?_
  simp -implicitDefEqProofs only [Tm.av_agg, Tm.av_width, Tm.av_store, Tm.av_junk, Tm.av_cells, Nat.le_refl, setCells, h43, h43.symm, zero_cells, take_all (Tm.av_cells a), agg_cells (Tm.av_agg a), take_all (Tm.av_cells b), agg_cells (Tm.av_agg b), evb0, evb1, evb2, evb3, evb4, evb5, evb6, evb7, evb8, evb9, ↓evZ2, ↓evZ3, ↓Int.cast_ofNat_Int, implies_true, ne_eq, or_false, false_or, or_self, gt_iff_lt, isMut, aFn, List.contains, List.elem, aBox, aField, aLoad, sub, aNil, aPick, aExt, aFld, gd, noJunk, plainOp, aBuildSlice, aBuild, aFill, aParts, seqParts, fitAll, List.range', ↓reduceIte, reduceCtorEq, Nat.reduceEqDiff, Nat.reduceAdd, Nat.reduceLeDiff, Nat.reduceMul, Nat.reduceLT, Nat.reduceBEq, Int.reduceEq, tf_L4_9]
  refine (c_DrawApplyBinds more _).mono ?_
  rintro _ s2 ⟨⟨t0, os, rfl⟩, hs2⟩
  subst hs2
  simp -implicitDefEqProofs only [Tm.av_agg, Tm.av_width, Tm.av_store, Tm.av_junk, Tm.av_cells, Nat.le_refl, setCells, h43, h43.symm, zero_cells, take_all (Tm.av_cells a), agg_cells (Tm.av_agg a), take_all (Tm.av_cells b), agg_cells (Tm.av_agg b), evb0, evb1, evb2, evb3, evb4, evb5, evb6, evb7, evb8, evb9, ↓evZ2, ↓evZ3, ↓Int.cast_ofNat_Int, implies_true, ne_eq, or_false, false_or, or_self, gt_iff_lt, isMut, aFn, List.contains, List.elem, aBox, aField, aLoad, sub, aNil, aPick, aExt, aFld, gd, noJunk, plainOp, aBuildSlice, aBuild, aFill, aParts, seqParts, fitAll, List.range', ↓reduceIte, reduceCtorEq, Nat.reduceEqDiff, Nat.reduceAdd, Nat.reduceLeDiff, Nat.reduceMul, Nat.reduceLT, Nat.reduceBEq, Int.reduceEq, tf_L4_9]
  have hca := fun s => c_impl_ApplyBinds a os s
  have hcb := fun s => c_impl_ApplyBinds b os s
  cases hx : appB a os with
  | none =>
    rw [hx] at hca
    obtain ⟨u, g, hug⟩ : ∃ (u : Tm) (g : Bool), optAv (appB b os) = .tup [u.av, .bool g] := by
      cases appB b os with
      | none => exact ⟨Tm.zero, false, rfl⟩
      | some u => exact ⟨u, true, rfl⟩
    rw [hug] at hcb
    simp only [optAv] at hca
    refine (hca _).to ?_
    simp -implicitDefEqProofs only [Tm.av_agg, Tm.av_width, Tm.av_store, Tm.av_junk, Tm.av_cells, Nat.le_refl, setCells, h43, h43.symm, zero_cells, take_all (Tm.av_cells a), agg_cells (Tm.av_agg a), take_all (Tm.av_cells b), agg_cells (Tm.av_agg b), evb0, evb1, evb2, evb3, evb4, evb5, evb6, evb7, evb8, evb9, ↓evZ2, ↓evZ3, ↓Int.cast_ofNat_Int, implies_true, ne_eq, or_false, false_or, or_self, gt_iff_lt, isMut, aFn, List.contains, List.elem, aBox, aField, aLoad, sub, aNil, aPick, aExt, aFld, gd, noJunk, plainOp, aBuildSlice, aBuild, aFill, aParts, seqParts, fitAll, List.range', ↓reduceIte, reduceCtorEq, Nat.reduceEqDiff, Nat.reduceAdd, Nat.reduceLeDiff, Nat.reduceMul, Nat.reduceLT, Nat.reduceBEq, Int.reduceEq, tf_L4_9]
    refine (hcb _).to ?_
    simp -implicitDefEqProofs only [beq_self_eq_true, Tm.av_agg, Tm.av_width, Tm.av_store, Tm.av_junk, Tm.av_cells, Nat.le_refl, setCells, h43, h43.symm, zero_cells, take_all (Tm.av_cells a), agg_cells (Tm.av_agg a), take_all (Tm.av_cells b), agg_cells (Tm.av_agg b), evb0, evb1, evb2, evb3, evb4, evb5, evb6, evb7, evb8, evb9, ↓evZ2, ↓evZ3, ↓Int.cast_ofNat_Int, implies_true, ne_eq, or_false, false_or, or_self, gt_iff_lt, isMut, aFn, List.contains, List.elem, aBox, aField, aLoad, sub, aNil, aPick, aExt, aFld, gd, noJunk, plainOp, aBuildSlice, aBuild, aFill, aParts, seqParts, fitAll, List.range', ↓reduceIte, reduceCtorEq, Nat.reduceEqDiff, Nat.reduceAdd, Nat.reduceLeDiff, Nat.reduceMul, Nat.reduceLT, Nat.reduceBEq, Int.reduceEq, tf_L4_9]
    refine (c_pgBinds bs _).to ?_
    simp -implicitDefEqProofs only [beq_self_eq_true, Tm.av_agg, Tm.av_width, Tm.av_store, Tm.av_junk, Tm.av_cells, Nat.le_refl, setCells, h43, h43.symm, zero_cells, take_all (Tm.av_cells a), agg_cells (Tm.av_agg a), take_all (Tm.av_cells b), agg_cells (Tm.av_agg b), evb0, evb1, evb2, evb3, evb4, evb5, evb6, evb7, evb8, evb9, ↓evZ2, ↓evZ3, ↓Int.cast_ofNat_Int, implies_true, ne_eq, or_false, false_or, or_self, gt_iff_lt, isMut, aFn, List.contains, List.elem, aBox, aField, aLoad, sub, aNil, aPick, aExt, aFld, gd, noJunk, plainOp, aBuildSlice, aBuild, aFill, aParts, seqParts, fitAll, List.range', ↓reduceIte, reduceCtorEq, Nat.reduceEqDiff, Nat.reduceAdd, Nat.reduceLeDiff, Nat.reduceMul, Nat.reduceLT, Nat.reduceBEq, Int.reduceEq, tf_L4_9]
    refine (c_pgBinds bs _).to ?_
    simp -implicitDefEqProofs only [beq_self_eq_true, Tm.av_agg, Tm.av_width, Tm.av_store, Tm.av_junk, Tm.av_cells, Nat.le_refl, setCells, h43, h43.symm, zero_cells, take_all (Tm.av_cells a), agg_cells (Tm.av_agg a), take_all (Tm.av_cells b), agg_cells (Tm.av_agg b), evb0, evb1, evb2, evb3, evb4, evb5, evb6, evb7, evb8, evb9, ↓evZ2, ↓evZ3, ↓Int.cast_ofNat_Int, implies_true, ne_eq, or_false, false_or, or_self, gt_iff_lt, isMut, aFn, List.contains, List.elem, aBox, aField, aLoad, sub, aNil, aPick, aExt, aFld, gd, noJunk, plainOp, aBuildSlice, aBuild, aFill, aParts, seqParts, fitAll, List.range', ↓reduceIte, reduceCtorEq, Nat.reduceEqDiff, Nat.reduceAdd, Nat.reduceLeDiff, Nat.reduceMul, Nat.reduceLT, Nat.reduceBEq, Int.reduceEq, tf_L4_9]
  | some x =>
    rw [hx] at hca
    simp only [optAv] at hca
    refine (hca _).to ?_
    simp -implicitDefEqProofs only [Tm.av_agg, Tm.av_width, Tm.av_store, Tm.av_junk, Tm.av_cells, Nat.le_refl, setCells, h43, h43.symm, zero_cells, take_all (Tm.av_cells a), agg_cells (Tm.av_agg a), take_all (Tm.av_cells b), agg_cells (Tm.av_agg b), evb0, evb1, evb2, evb3, evb4, evb5, evb6, evb7, evb8, evb9, ↓evZ2, ↓evZ3, ↓Int.cast_ofNat_Int, implies_true, ne_eq, or_false, false_or, or_self, gt_iff_lt, isMut, aFn, List.contains, List.elem, aBox, aField, aLoad, sub, aNil, aPick, aExt, aFld, gd, noJunk, plainOp, aBuildSlice, aBuild, aFill, aParts, seqParts, fitAll, List.range', ↓reduceIte, reduceCtorEq, Nat.reduceEqDiff, Nat.reduceAdd, Nat.reduceLeDiff, Nat.reduceMul, Nat.reduceLT, Nat.reduceBEq, Int.reduceEq, tf_L4_9]
    cases hy : appB b os with
    | none =>
      rw [hy] at hcb
      simp only [optAv] at hcb
      refine (hcb _).to ?_
      simp -implicitDefEqProofs only [beq_self_eq_true, Tm.av_agg, Tm.av_width, Tm.av_store, Tm.av_junk, Tm.av_cells, Nat.le_refl, setCells, h43, h43.symm, zero_cells, take_all (Tm.av_cells a), agg_cells (Tm.av_agg a), take_all (Tm.av_cells b), agg_cells (Tm.av_agg b), evb0, evb1, evb2, evb3, evb4, evb5, evb6, evb7, evb8, evb9, ↓evZ2, ↓evZ3, ↓Int.cast_ofNat_Int, implies_true, ne_eq, or_false, false_or, or_self, gt_iff_lt, isMut, aFn, List.contains, List.elem, aBox, aField, aLoad, sub, aNil, aPick, aExt, aFld, gd, noJunk, plainOp, aBuildSlice, aBuild, aFill, aParts, seqParts, fitAll, List.range', ↓reduceIte, reduceCtorEq, Nat.reduceEqDiff, Nat.reduceAdd, Nat.reduceLeDiff, Nat.reduceMul, Nat.reduceLT, Nat.reduceBEq, Int.reduceEq, tf_L4_9]
      refine (c_pgBinds bs _).to ?_
      simp -implicitDefEqProofs only [beq_self_eq_true, Tm.av_agg, Tm.av_width, Tm.av_store, Tm.av_junk, Tm.av_cells, Nat.le_refl, setCells, h43, h43.symm, zero_cells, take_all (Tm.av_cells a), agg_cells (Tm.av_agg a), take_all (Tm.av_cells b), agg_cells (Tm.av_agg b), evb0, evb1, evb2, evb3, evb4, evb5, evb6, evb7, evb8, evb9, ↓evZ2, ↓evZ3, ↓Int.cast_ofNat_Int, implies_true, ne_eq, or_false, false_or, or_self, gt_iff_lt, isMut, aFn, List.contains, List.elem, aBox, aField, aLoad, sub, aNil, aPick, aExt, aFld, gd, noJunk, plainOp, aBuildSlice, aBuild, aFill, aParts, seqParts, fitAll, List.range', ↓reduceIte, reduceCtorEq, Nat.reduceEqDiff, Nat.reduceAdd, Nat.reduceLeDiff, Nat.reduceMul, Nat.reduceLT, Nat.reduceBEq, Int.reduceEq, tf_L4_9]
      refine (c_pgBinds bs _).to ?_
      simp -implicitDefEqProofs only [beq_self_eq_true, Tm.av_agg, Tm.av_width, Tm.av_store, Tm.av_junk, Tm.av_cells, Nat.le_refl, setCells, h43, h43.symm, zero_cells, take_all (Tm.av_cells a), agg_cells (Tm.av_agg a), take_all (Tm.av_cells b), agg_cells (Tm.av_agg b), evb0, evb1, evb2, evb3, evb4, evb5, evb6, evb7, evb8, evb9, ↓evZ2, ↓evZ3, ↓Int.cast_ofNat_Int, implies_true, ne_eq, or_false, false_or, or_self, gt_iff_lt, isMut, aFn, List.contains, List.elem, aBox, aField, aLoad, sub, aNil, aPick, aExt, aFld, gd, noJunk, plainOp, aBuildSlice, aBuild, aFill, aParts, seqParts, fitAll, List.range', ↓reduceIte, reduceCtorEq, Nat.reduceEqDiff, Nat.reduceAdd, Nat.reduceLeDiff, Nat.reduceMul, Nat.reduceLT, Nat.reduceBEq, Int.reduceEq, tf_L4_9]
    | some y =>
      rw [hy] at hcb
      simp only [optAv] at hcb
      refine (hcb _).to ?_
      simp -implicitDefEqProofs only [beq_self_eq_true, Tm.av_agg, Tm.av_width, Tm.av_store, Tm.av_junk, Tm.av_cells, Nat.le_refl, setCells, h43, h43.symm, zero_cells, take_all (Tm.av_cells a), agg_cells (Tm.av_agg a), take_all (Tm.av_cells b), agg_cells (Tm.av_agg b), evb0, evb1, evb2, evb3, evb4, evb5, evb6, evb7, evb8, evb9, ↓evZ2, ↓evZ3, ↓Int.cast_ofNat_Int, implies_true, ne_eq, or_false, false_or, or_self, gt_iff_lt, isMut, aFn, List.contains, List.elem, aBox, aField, aLoad, sub, aNil, aPick, aExt, aFld, gd, noJunk, plainOp, aBuildSlice, aBuild, aFill, aParts, seqParts, fitAll, List.range', ↓reduceIte, reduceCtorEq, Nat.reduceEqDiff, Nat.reduceAdd, Nat.reduceLeDiff, Nat.reduceMul, Nat.reduceLT, Nat.reduceBEq, Int.reduceEq, tf_L4_9]
      refine (c_pgBinds bs _).to ?_
      simp -implicitDefEqProofs only [beq_self_eq_true, Tm.av_agg, Tm.av_width, Tm.av_store, Tm.av_junk, Tm.av_cells, Nat.le_refl, setCells, h43, h43.symm, zero_cells, take_all (Tm.av_cells a), agg_cells (Tm.av_agg a), take_all (Tm.av_cells b), agg_cells (Tm.av_agg b), evb0, evb1, evb2, evb3, evb4, evb5, evb6, evb7, evb8, evb9, ↓evZ2, ↓evZ3, ↓Int.cast_ofNat_Int, implies_true, ne_eq, or_false, false_or, or_self, gt_iff_lt, isMut, aFn, List.contains, List.elem, aBox, aField, aLoad, sub, aNil, aPick, aExt, aFld, gd, noJunk, plainOp, aBuildSlice, aBuild, aFill, aParts, seqParts, fitAll, List.range', ↓reduceIte, reduceCtorEq, Nat.reduceEqDiff, Nat.reduceAdd, Nat.reduceLeDiff, Nat.reduceMul, Nat.reduceLT, Nat.reduceBEq, Int.reduceEq, tf_L4_9]
      refine (c_impl_TermSame x y _).to ?_
      cases hs : x.same y with
      | false =>
        simp -implicitDefEqProofs only [Tm.av_agg, Tm.av_width, Tm.av_store, Tm.av_junk, Tm.av_cells, Nat.le_refl, setCells, h43, h43.symm, zero_cells, take_all (Tm.av_cells a), agg_cells (Tm.av_agg a), take_all (Tm.av_cells b), agg_cells (Tm.av_agg b), evb0, evb1, evb2, evb3, evb4, evb5, evb6, evb7, evb8, evb9, ↓evZ2, ↓evZ3, ↓Int.cast_ofNat_Int, implies_true, ne_eq, or_false, false_or, or_self, gt_iff_lt, isMut, aFn, List.contains, List.elem, aBox, aField, aLoad, sub, aNil, aPick, aExt, aFld, gd, noJunk, plainOp, aBuildSlice, aBuild, aFill, aParts, seqParts, fitAll, List.range', ↓reduceIte, reduceCtorEq, Nat.reduceEqDiff, Nat.reduceAdd, Nat.reduceLeDiff, Nat.reduceMul, Nat.reduceLT, Nat.reduceBEq, Int.reduceEq, tf_L4_9]
        refine (c_pgBinds bs _).to ?_
        simp -implicitDefEqProofs only [beq_self_eq_true, Tm.av_agg, Tm.av_width, Tm.av_store, Tm.av_junk, Tm.av_cells, Nat.le_refl, setCells, h43, h43.symm, zero_cells, take_all (Tm.av_cells a), agg_cells (Tm.av_agg a), take_all (Tm.av_cells b), agg_cells (Tm.av_agg b), evb0, evb1, evb2, evb3, evb4, evb5, evb6, evb7, evb8, evb9, ↓evZ2, ↓evZ3, ↓Int.cast_ofNat_Int, implies_true, ne_eq, or_false, false_or, or_self, gt_iff_lt, isMut, aFn, List.contains, List.elem, aBox, aField, aLoad, sub, aNil, aPick, aExt, aFld, gd, noJunk, plainOp, aBuildSlice, aBuild, aFill, aParts, seqParts, fitAll, List.range', ↓reduceIte, reduceCtorEq, Nat.reduceEqDiff, Nat.reduceAdd, Nat.reduceLeDiff, Nat.reduceMul, Nat.reduceLT, Nat.reduceBEq, Int.reduceEq, tf_L4_9]
      | true =>
        obtain rfl := (Tm.same_eq x y).1 hs
        obtain ⟨l, hl, hz⟩ := uniB_general hx hy
        obtain ⟨rfl, rfl⟩ := hsome l hl
        have hcz := fun s => c_impl_ApplyBinds a bs s
        simp -implicitDefEqProofs only [Tm.av_agg, Tm.av_width, Tm.av_store, Tm.av_junk, Tm.av_cells, Nat.le_refl, setCells, h43, h43.symm, zero_cells, take_all (Tm.av_cells a), agg_cells (Tm.av_agg a), take_all (Tm.av_cells b), agg_cells (Tm.av_agg b), evb0, evb1, evb2, evb3, evb4, evb5, evb6, evb7, evb8, evb9, ↓evZ2, ↓evZ3, ↓Int.cast_ofNat_Int, implies_true, ne_eq, or_false, false_or, or_self, gt_iff_lt, isMut, aFn, List.contains, List.elem, aBox, aField, aLoad, sub, aNil, aPick, aExt, aFld, gd, noJunk, plainOp, aBuildSlice, aBuild, aFill, aParts, seqParts, fitAll, List.range', ↓reduceIte, reduceCtorEq, Nat.reduceEqDiff, Nat.reduceAdd, Nat.reduceLeDiff, Nat.reduceMul, Nat.reduceLT, Nat.reduceBEq, Int.reduceEq, tf_L4_9]
        cases hzz : appB a bs with
        | none =>
          rw [hzz] at hcz
          simp only [optAv] at hcz
          refine (hcz _).to ?_
          simp -implicitDefEqProofs only [Tm.av_agg, Tm.av_width, Tm.av_store, Tm.av_junk, Tm.av_cells, Nat.le_refl, setCells, h43, h43.symm, zero_cells, take_all (Tm.av_cells a), agg_cells (Tm.av_agg a), take_all (Tm.av_cells b), agg_cells (Tm.av_agg b), evb0, evb1, evb2, evb3, evb4, evb5, evb6, evb7, evb8, evb9, ↓evZ2, ↓evZ3, ↓Int.cast_ofNat_Int, implies_true, ne_eq, or_false, false_or, or_self, gt_iff_lt, isMut, aFn, List.contains, List.elem, aBox, aField, aLoad, sub, aNil, aPick, aExt, aFld, gd, noJunk, plainOp, aBuildSlice, aBuild, aFill, aParts, seqParts, fitAll, List.range', ↓reduceIte, reduceCtorEq, Nat.reduceEqDiff, Nat.reduceAdd, Nat.reduceLeDiff, Nat.reduceMul, Nat.reduceLT, Nat.reduceBEq, Int.reduceEq, tf_L4_9]
        | some z =>
          rw [hzz] at hcz
          simp only [optAv] at hcz
          refine (hcz _).to ?_
          obtain ⟨hz1, hz2, hz3⟩ := hz z hzz
          have hci := fun s => c_impl_InstanceOf (subB os) z (by rw [← hz3]; exact hz2) hz1 s
          rw [← hz3] at hci
          simp -implicitDefEqProofs only [Tm.av_agg, Tm.av_width, Tm.av_store, Tm.av_junk, Tm.av_cells, Nat.le_refl, setCells, h43, h43.symm, zero_cells, take_all (Tm.av_cells a), agg_cells (Tm.av_agg a), take_all (Tm.av_cells b), agg_cells (Tm.av_agg b), evb0, evb1, evb2, evb3, evb4, evb5, evb6, evb7, evb8, evb9, ↓evZ2, ↓evZ3, ↓Int.cast_ofNat_Int, implies_true, ne_eq, or_false, false_or, or_self, gt_iff_lt, isMut, aFn, List.contains, List.elem, aBox, aField, aLoad, sub, aNil, aPick, aExt, aFld, gd, noJunk, plainOp, aBuildSlice, aBuild, aFill, aParts, seqParts, fitAll, List.range', ↓reduceIte, reduceCtorEq, Nat.reduceEqDiff, Nat.reduceAdd, Nat.reduceLeDiff, Nat.reduceMul, Nat.reduceLT, Nat.reduceBEq, Int.reduceEq, tf_L4_9]
          refine (hci _).to ?_
          simp -implicitDefEqProofs only [Tm.av_agg, Tm.av_width, Tm.av_store, Tm.av_junk, Tm.av_cells, Nat.le_refl, setCells, h43, h43.symm, zero_cells, take_all (Tm.av_cells a), agg_cells (Tm.av_agg a), take_all (Tm.av_cells b), agg_cells (Tm.av_agg b), evb0, evb1, evb2, evb3, evb4, evb5, evb6, evb7, evb8, evb9, ↓evZ2, ↓evZ3, ↓Int.cast_ofNat_Int, implies_true, ne_eq, or_false, false_or, or_self, gt_iff_lt, isMut, aFn, List.contains, List.elem, aBox, aField, aLoad, sub, aNil, aPick, aExt, aFld, gd, noJunk, plainOp, aBuildSlice, aBuild, aFill, aParts, seqParts, fitAll, List.range', ↓reduceIte, reduceCtorEq, Nat.reduceEqDiff, Nat.reduceAdd, Nat.reduceLeDiff, Nat.reduceMul, Nat.reduceLT, Nat.reduceBEq, Int.reduceEq, tf_L4_9]
end Go.AW

/- What a law is handed, read as data; the law's row from a contract. -/
namespace Go.AW
open Go.ChangeShapes Go.WideShapes Go.ChangeAt Go.RowKit

/-- No block is owned. -/
abbrev none0 : Store := fun _ => none

section
variable {H : Type} {enc : TypeId × Value → H} {P : Program} {w : World}

/-- Whatever is read as type t is data. -/
def Reads (enc : TypeId × Value → H) (P : Program) (w : World) (t n : Nat) {α : Type} (av : α → AV) : Prop :=
  ∀ cs x, DataW.trod enc P w 0 (fun _ => true) true n t cs = some x → ∃ a : α, VC w.heap none0 (av a) cs

theorem VEs_each {h : Heap} {st : Store} {b k : Nat} : ∀ {es : List AV} {off : Nat}, (∀ e ∈ es, e.width = k) → (∀ (i : Nat) e, es[i]? = some e → VE h st b (off + i * k) e) → VEs h st b off es
  | [], _, _, _ => by simp [VEs]
  | e :: es, off, hw, h => by
    simp only [VEs]
    refine ⟨by simpa [VE] using h 0 e rfl, VEs_each (fun x hx => hw x (by simp [hx])) fun i x hx => ?_⟩
    have := h (i + 1) x (by simpa using hx)
    rw [hw e (by simp), Nat.add_assoc, ← Nat.succ_mul' k i] 
    exact this
where Nat.succ_mul' (k i : Nat) : (i + 1) * k = k + i * k := by rw [Nat.succ_mul]; omega

theorem cell_spot {a : Addr} {v : Value} (h : w.cell? a = some v) : a.spot = none ∧ a.block < w.heap.size ∧ cellAt w.heap a.block a.off = some v := by
  unfold World.cell? at h
  split at h
  · rename_i c t fr hb
    split at h
    · cases h
    · rename_i hs
      refine ⟨by simpa using hs, (Array.getElem?_eq_some_iff.1 hb).1, by simp [cellAt, hb, h]⟩
  · cases h

theorem cells_at {a : Addr} {n : Nat} {cs : List Value} (hs : a.spot = none) (h : w.cells? 0 a n = some cs) : cellsAt w.heap a.block a.off cs ∧ cs.length = n := by
  obtain ⟨_, hl, hc⟩ := World.cells?_some h
  refine ⟨?_, hl⟩
  have : ∀ (l : List Value) (k : Nat), (∀ i, i < l.length → w.cell? (a.add (k + i)) = l[i]?) → cellsAt w.heap a.block (a.off + k) l := by
    intro l
    induction l with
    | nil => intro _ _; trivial
    | cons v l ih =>
      intro k hk
      refine ⟨?_, ?_⟩
      · have := (cell_spot (hk 0 (by simp))).2.2
        obtain ⟨b, off, sp⟩ := a
        simp only at hs
        subst hs
        simpa [Addr.add_flat] using this
      · have := ih (k + 1) (fun i hi => by have := hk (i + 1) (by simp; omega); rw [show k + 1 + i = k + (i + 1) by omega]; simpa using this)
        simpa [Nat.add_assoc] using this
  simpa using this cs 0 (fun i hi => by simpa using hc i (by omega))

theorem reads_slice {t e n k : Nat} {α : Type} {av : α → AV} (ht : P.underlying t = some (.slice e)) (hk : P.cellsOf e = k) (hpos : 0 < k) (hw : ∀ a, (av a).width = k) (hr : ∀ m, m < n → Reads enc P w e m av) :
    Reads enc P w t n (fun l : List α => .slice (l.map av)) := by
  intro cs x h
  rcases DataW.trod_slice ht h with ⟨rfl, _⟩ | ⟨a, len, cap, elems, rest, m, hm, rfl, rfl, _, hl, hcap, hlen, hel, hsp, _⟩
  · exact ⟨[], by simp only [List.map_nil]; unfold VC; exact .inl ⟨⟨_, rfl⟩, rfl⟩⟩
  obtain ⟨hrl, hrest⟩ := hsp rfl
  rw [hk] at hel hrest
  have get : ∀ i, i < cap → ∃ ds y, w.cells? 0 (a.add (i * k)) k = some ds ∧ DataW.trod enc P w 0 (fun _ => true) true m e ds = some y := by
    intro i hi
    have hb : ∃ y, (w.cells? 0 (a.add (i * k)) k).bind (DataW.trod enc P w 0 (fun _ => true) true m e) = some y := by
      by_cases hi' : i < len
      · exact ⟨elems[i]'(by omega), by rw [hel i hi']; simp [show i < elems.length by omega]⟩
      · have := hrest (i - len) (by omega)
        rw [show len + (i - len) = i by omega] at this
        exact ⟨rest[i - len]'(by omega), by rw [this]; simp [show i - len < rest.length by omega]⟩
    obtain ⟨y, hy⟩ := hb
    obtain ⟨ds, h1, h2⟩ := Option.bind_eq_some_iff.1 hy
    exact ⟨ds, y, h1, h2⟩
  by_cases hc0 : cap = 0
  · subst hc0
    obtain rfl : len = 0 := by omega
    exact ⟨[], by simp only [List.map_nil]; unfold VC; exact .inl ⟨⟨_, rfl⟩, rfl⟩⟩
  obtain ⟨ds0, _, hd0, _⟩ := get 0 (by omega)
  have hspot : a.spot = none ∧ a.block < w.heap.size := by
    obtain ⟨_, hl0, hc⟩ := World.cells?_some hd0
    have := hc 0 hpos
    have h0 : ds0[0]? = some (ds0[0]'(by omega)) := by simp [hl0, hpos]
    rw [h0] at this
    have := cell_spot this
    obtain ⟨b, off, sp⟩ := a
    simp only [Nat.zero_mul] at this
    cases sp with
    | none => exact ⟨rfl, by simpa [Addr.add_flat] using this.2.1⟩
    | some s => exact absurd this.1 (by simp [Addr.add])
  obtain ⟨b, off, sp⟩ := a
  simp only at hspot
  obtain ⟨rfl, hbl⟩ := hspot
  have val : ∀ i, i < len → ∃ v : α, VE w.heap none0 b (off + i * k) (av v) := by
    intro i hi
    obtain ⟨ds, y, h1, h2⟩ := get i (by omega)
    obtain ⟨v, hv⟩ := hr m (by omega) ds y h2
    obtain ⟨c1, c2⟩ := cells_at (a := (⟨b, off, none⟩ : Addr).add (i * k)) (by simp [Addr.add_flat]) h1
    exact ⟨v, ds, by simpa [Addr.add_flat] using c1, by rw [hw]; exact c2, hv⟩
  have build : ∀ j, j ≤ len → ∃ l : List α, l.length = j ∧ ∀ (i : Nat) v, l[i]? = some v → VE w.heap none0 b (off + i * k) (av v) := by
    intro j
    induction j with
    | zero => intro _; exact ⟨[], rfl, by simp⟩
    | succ j ih =>
      intro hj
      obtain ⟨l, h1, h2⟩ := ih (by omega)
      obtain ⟨v, hv⟩ := val j (by omega)
      refine ⟨l ++ [v], by simp [h1], fun i u hi => ?_⟩
      rw [List.getElem?_append] at hi
      split at hi
      · exact h2 i u hi
      · rename_i hge
        have : i = j := by
          have := (List.getElem?_eq_some_iff.1 hi).1
          simp at this
          omega
        subst this
        simp [h1] at hi
        subst hi
        exact hv
  obtain ⟨l, h1, h2⟩ := build len (Nat.le_refl _)
  refine ⟨l, ?_⟩
  unfold VC
  refine .inr ⟨b, off, cap, by simp [h1], by simp [h1]; exact hl, hcap, rfl, hbl, even_map hw l, VEs_each (k := k) (by intro e he; simp only [List.mem_map] at he; obtain ⟨v, _, rfl⟩ := he; exact hw v) fun i e he => ?_⟩
  rw [List.getElem?_map] at he
  obtain ⟨v, hv, rfl⟩ := Option.map_eq_some_iff.1 he
  exact h2 i v hv

theorem reads_val {t : TypeId} {α : Type} {av : α → AV} {v : Value} {d : DataW H} {ps : List MemPlace} (hr : ∀ n, Reads enc P w t n av) (hag : ∀ a, (av a).isAgg = vIsAgg v) (h : DataW.Trod enc P w 0 (fun _ => true) true t v d ps) :
    ∃ a : α, VRel w.heap none0 (av a) v := by
  obtain ⟨n, hn⟩ := h
  obtain ⟨a, ha⟩ := hr n _ _ hn
  refine ⟨a, ?_⟩
  have := hag a
  cases hq : av a <;> rw [hq] at ha this <;> first | trivial | exact ⟨this, ha⟩

/-! ### The row -/
theorem trodAll_stays (hl : laidOutB P = true) {W W' : World} {sp : Nat → Bool} : ∀ {ts : List TypeId} {vs : List Value} {ds : List (DataW H)} {ps : List MemPlace}, (ts.all fun t => P.readableRec t && decide (t < P.types.size)) = true →
    DataW.TrodAll enc P W 0 (fun _ => true) true ts vs ds ps → (∀ x ∈ ps, W.sameAt W' x) → (∀ x ∈ ps, sp x.block = true) → DataW.TrodAll enc P W' 0 sp true ts vs ds ps
  | [], vs, ds, ps, _, h, _, _ => by
    cases vs <;> cases ds <;> simp [DataW.TrodAll] at h ⊢
    exact h
  | t :: ts, vs, ds, ps, ht, h, h1, h2 => by
    obtain ⟨v, vs', d, ds', p, q, rfl, rfl, rfl, hd, hrest⟩ := trodAll_cons h
    simp only [List.all_cons, Bool.and_eq_true, decide_eq_true_eq] at ht
    refine ⟨p, q, Go.WideElems.Trod_stays hl ht.1.1 ht.1.2 hd (fun x hx => h1 x (by simp [hx])) (fun x hx => h2 x (by simp [hx])), trodAll_stays hl ht.2 hrest (fun x hx => h1 x (by simp [hx])) (fun x hx => h2 x (by simp [hx])), rfl⟩

theorem below_of {W W' : World} {st' : Store} (T : StepH W.heap none0 W'.heap st') (s : Same W W') : Below W.heap.size W W' :=
  ⟨s.1, s.2.1, s.2.2, T.size, fun k hk => (T.keep k hk rfl).1⟩

/-- A law that returns true and writes nothing that was there. -/
theorem law_row {f : Func} {g : FuncId} {s : ChangeSpec} {W : World} {args : Array Value} {ds : List (DataW H)} {before : List MemPlace} {avs : List AV} {tb : TypeId}
    (hl : laidOutB P = true) (hts : (f.params.toList.all fun t => P.readableRec t && decide (t < P.types.size)) = true) (hrt : f.resultTypes = #[tb]) (htb : P.underlying tb = some .bool) (hsv : s.vars = [])
    (hW : DataW.Whole enc P f.params.toList [] false W args.toList ds [] before) (hfn : s.fn H ds = { results := [.lit (.bool true)], args := ds }) (hrel : VRelL W.heap none0 avs args.toList)
    (hc : ACalls P g avs none0 (fun r _ => r = .bool true)) :
    Calls P g args W fun e W' => ∃ v, e = .returned v ∧ s.post enc P f false true false false W args v W' := by
  have hS : SRel W.heap none0 := fun b o h => by cases h
  have := hc.2 W args.toList hS hrel
  simp only [Array.toArray_toList] at this
  refine this.mono ?_
  rintro e W' ⟨v, r, st', rfl, hv, _, T, sm, rfl⟩
  refine ⟨v, rfl, ?_⟩
  have hB := below_of T sm
  rw [hv.bool_of]
  have hW' : DataW.Whole enc P f.params.toList s.vars false W args.toList ds [] before := by rw [hsv]; exact hW
  obtain ⟨p, q, hA, hV, rfl, hz, _⟩ := hW
  obtain ⟨_, rfl⟩ := trodVars_none hV
  have hlt : ∀ x ∈ p, x.block < W.heap.size := fun x hx => hW'.lt x (by simp [hx])
  have hres : ∀ (b : Nat) (sp : Nat → Bool) (hd : Bool), DataW.TrodAll enc P W' b sp hd f.resultTypes.toList ((Value.bool true).resultList f.resultTypes.size) (s.fn H (ds ++ [])).results [] := fun _ _ _ => by
    rw [List.append_nil, hfn, hrt]
    exact trodAll_mk1 (shut_bool htb true)
  have hargs : ∀ sp : Nat → Bool, (∀ x ∈ p, sp x.block = true) → DataW.TrodAll enc P W' 0 sp true f.params.toList args.toList (s.fn H (ds ++ [])).args p := fun sp hsp => by
    rw [List.append_nil, hfn]
    exact trodAll_stays hl hts hA (fun x hx => hB.same (hlt x hx)) hsp
  have hvars : ∀ sp : Nat → Bool, DataW.TrodVars enc P W' sp s.vars (s.fn H (ds ++ [])).vars [] := fun sp => by
    rw [List.append_nil, hfn, hsv]
    exact rfl
  refine ⟨ds, [], p ++ [], [], p, [], hW', hres _ _ _, hargs _ (fun x hx => by simpa using hlt x hx), hvars _, World.keptBut_mono (fun x hx => ⟨hx, by simpa using hx⟩) (hB.frame (· ∈ p ++ [])), fun _ => ?_⟩
  refine ⟨ok_one hrt rfl (okWide_bool_mk htb true), _, _, ([] ++ p) ++ [], ⟨[] ++ p, [], trodAll_append (hargs _ (fun _ _ => rfl)) (hres _ _ _), hvars _, rfl, ?_, ?_⟩, ?_⟩
  · intro b off hp
    have hp' : MemPlace.cell b off ∈ p := by simpa using hp
    rw [hB.frozen (p := ⟨b, off, none⟩) (hlt _ hp')]
    exact hz b off (by simpa using hp')
  · intro ha; cases ha
  · intro x hx _
    simpa using hx
end
end Go.AW


/- Bytes, read. -/
namespace Go.AW
open Go.Proofs.Try
set_option maxRecDepth 100000
section
variable {H : Type} {enc : TypeId × Value → H} {w : World}
theorem cellsOf_uint8 : prog.cellsOf 5 = 1 := by kernel_rfl
theorem reads_byte (n : Nat) : Reads enc prog w 5 n byteAv := by
  intro cs x h
  obtain ⟨k, rfl, _, hw⟩ := DataW.trod_int underlying5 h
  simp only [Lit.wf, IntKind.min, IntKind.max, IntKind.signed, IntKind.bits, Bool.and_eq_true, decide_eq_true_eq] at hw
  refine ⟨⟨k.toNat, ?_⟩, ?_⟩
  · simp at hw; omega
  · have : (((k.toNat : Nat)) : Int) = k := by simp at hw; omega
    simp only [byteAv, this, VC]
theorem reads_bytes (n : Nat) : Reads enc prog w 39 n (fun l : List Bt => .slice (l.map byteAv)) :=
  reads_slice underlying39 cellsOf_uint8 (by omega) byteAv_width fun m _ => reads_byte m
end
end Go.AW


/- Terms, answers, numbers and bytes, read. -/
namespace Go.AW
open Go.Proofs.Try
set_option maxRecDepth 100000
section
variable {H : Type} {enc : TypeId × Value → H} {w : World}

/-- Any other value. -/
theorem wide_slice {r : Reach} {b0 : Nat} {t e : TypeId} {v : Value} (ht : prog.underlying t = some (.slice e)) (h : Value.okWide prog w r b0 t v) : vIsAgg v = false := by
  cases v <;> first | rfl | (simp [Value.okWide, ht, Cell.okWide, Cell.ok] at h)
end
end Go.AW
