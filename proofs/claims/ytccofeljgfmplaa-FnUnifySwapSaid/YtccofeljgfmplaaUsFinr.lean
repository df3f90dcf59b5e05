import Derived.Test.YtccofeljgfmplaaUsFing
import Derived.Test.YtccofeljgfmplaaUsFini
import Derived.Test.YtccofeljgfmplaaUsFino
import Derived.Test.YtccofeljgfmplaaUsFinq
import Derived.Test.YtccofeljgfmplaaUsFink
import Derived.Test.YtccofeljgfmplaaUsFinm
import Derived.Test.YtccofeljgfmplaaUsFinl
import Derived.ProofKit

/- Terms: what the reference's and the program's functions return. -/
namespace Go.AW
open Go.Proofs.Try
set_option linter.unusedSimpArgs false
set_option maxRecDepth 100000
theorem tf_Ts2_84 : (type_of% tI_2) ∧ (type_of% zI_2) ∧ (type_of% Go.Proofs.Try.underlying2) ∧ (type_of% tI_3) ∧ (type_of% zI_3) ∧ (type_of% Go.Proofs.Try.underlying3) ∧ (type_of% tI_4) ∧ (type_of% zI_4) ∧ (type_of% Go.Proofs.Try.underlying4) ∧ (type_of% tI_5) ∧ (type_of% zI_5) ∧ (type_of% Go.Proofs.Try.underlying5) ∧ (type_of% tI_6) ∧ (type_of% zI_6) ∧ (type_of% Go.Proofs.Try.underlying6) ∧ (type_of% tI_7) ∧ (type_of% zI_7) ∧ (type_of% fI_7_0) ∧ (type_of% fI_7_1) ∧ (type_of% fI_7_2) ∧ (type_of% fI_7_3) ∧ (type_of% bI_7) ∧ (type_of% tI_8) ∧ (type_of% zI_8) ∧ (type_of% fI_8_0) ∧ (type_of% fI_8_1) ∧ (type_of% fI_8_2) ∧ (type_of% fI_8_3) ∧ (type_of% bI_8) ∧ (type_of% tI_9) ∧ (type_of% zI_9) ∧ (type_of% Go.Proofs.Try.underlying9) ∧ (type_of% tI_10) ∧ (type_of% zI_10) ∧ (type_of% Go.Proofs.Try.underlying10) ∧ (type_of% tI_11) ∧ (type_of% zI_11) ∧ (type_of% Go.Proofs.Try.underlying11) ∧ (type_of% tI_12) ∧ (type_of% zI_12) ∧ (type_of% Go.Proofs.Try.underlying12) ∧ (type_of% tI_13) ∧ (type_of% zI_13) ∧ (type_of% fI_13_0) ∧ (type_of% fI_13_1) ∧ (type_of% bI_13) ∧ (type_of% tI_15) ∧ (type_of% zI_15) ∧ (type_of% tI_16) ∧ (type_of% zI_16) ∧ (type_of% tI_17) ∧ (type_of% zI_17) ∧ (type_of% tI_27) ∧ (type_of% zI_27) ∧ (type_of% eI_27) ∧ (type_of% eB_27) ∧ (type_of% eZ_27) ∧ (type_of% Go.Proofs.Try.underlying27) ∧ (type_of% tI_31) ∧ (type_of% zI_31) ∧ (type_of% fI_31_0) ∧ (type_of% bI_31) ∧ (type_of% tI_32) ∧ (type_of% zI_32) ∧ (type_of% fI_32_0) ∧ (type_of% bI_32) ∧ (type_of% tI_41) ∧ (type_of% zI_41) ∧ (type_of% fI_41_0) ∧ (type_of% fI_41_1) ∧ (type_of% fI_41_2) ∧ (type_of% fI_41_3) ∧ (type_of% bI_41) ∧ (type_of% tI_64) ∧ (type_of% zI_64) ∧ (type_of% fI_64_0) ∧ (type_of% fI_64_1) ∧ (type_of% bI_64) := ⟨tI_2, zI_2, Go.Proofs.Try.underlying2, tI_3, zI_3, Go.Proofs.Try.underlying3, tI_4, zI_4, Go.Proofs.Try.underlying4, tI_5, zI_5, Go.Proofs.Try.underlying5, tI_6, zI_6, Go.Proofs.Try.underlying6, tI_7, zI_7, fI_7_0, fI_7_1, fI_7_2, fI_7_3, bI_7, tI_8, zI_8, fI_8_0, fI_8_1, fI_8_2, fI_8_3, bI_8, tI_9, zI_9, Go.Proofs.Try.underlying9, tI_10, zI_10, Go.Proofs.Try.underlying10, tI_11, zI_11, Go.Proofs.Try.underlying11, tI_12, zI_12, Go.Proofs.Try.underlying12, tI_13, zI_13, fI_13_0, fI_13_1, bI_13, tI_15, zI_15, tI_16, zI_16, tI_17, zI_17, tI_27, zI_27, eI_27, eB_27, eZ_27, Go.Proofs.Try.underlying27, tI_31, zI_31, fI_31_0, bI_31, tI_32, zI_32, fI_32_0, bI_32, tI_41, zI_41, fI_41_0, fI_41_1, fI_41_2, fI_41_3, bI_41, tI_64, zI_64, fI_64_0, fI_64_1, bI_64⟩
theorem c_EqualFuncTerm (l l' : List Tm) (g : FuncId) (st : Store) (hc : ∀ x ∈ l, ∀ (y : Tm) (st : Store), ACalls prog g [Tm.av x, Tm.av y] st (fun r st' => r = .bool (Tm.same x y) ∧ st' = st)) :
    ACalls prog 84 [.slice (l.map Tm.av), .slice (l'.map Tm.av), .func g []] st (fun r st' => r = .bool (eqL Tm.same l l') ∧ st' = st) := by
  refine acalls_fit [1000000] func84 ntmps84 rfl rfl (by kernel_rfl) (by decide +kernel) (by show 3 ≤ _; decide +kernel) ?_
  simp only [fitsL, AV.fits, and_true, List.length_map]
  intro ⟨⟨hl, _⟩, ⟨hl', _⟩⟩
  simp -implicitDefEqProofs only [List.length_map, Tm.av_agg, Tm.av_width, Tm.av_store, Tm.av_junk, evb0, evb1, evb2, evb3, evb4, evb5, evb6, evb7, evb8, evb9, ↓evZ2, ↓evZ3, ↓Int.cast_ofNat_Int, implies_true, ne_eq, or_false, false_or, or_self, gt_iff_lt, isMut, aFn, List.contains, List.elem, aBox, aField, aLoad, sub, aNil, aPick, aExt, aFld, gd, noJunk, plainOp, aBuildSlice, aBuild, aFill, aParts, seqParts, fitAll, List.range', ↓reduceIte, reduceCtorEq, Nat.reduceEqDiff, Nat.reduceAdd, Nat.reduceLeDiff, Nat.reduceMul, Nat.reduceLT, Nat.reduceBEq, Int.reduceEq, tf_Ts2_84]
  refine ⟨fun h4 => ?_, fun h4 => ?_⟩
  · simp -implicitDefEqProofs only [List.length_map, Tm.av_agg, Tm.av_width, Tm.av_store, Tm.av_junk, evb0, evb1, evb2, evb3, evb4, evb5, evb6, evb7, evb8, evb9, ↓evZ2, ↓evZ3, ↓Int.cast_ofNat_Int, implies_true, ne_eq, or_false, false_or, or_self, gt_iff_lt, isMut, aFn, List.contains, List.elem, aBox, aField, aLoad, sub, aNil, aPick, aExt, aFld, gd, noJunk, plainOp, aBuildSlice, aBuild, aFill, aParts, seqParts, fitAll, List.range', ↓reduceIte, reduceCtorEq, Nat.reduceEqDiff, Nat.reduceAdd, Nat.reduceLeDiff, Nat.reduceMul, Nat.reduceLT, Nat.reduceBEq, Int.reduceEq, tf_Ts2_84]
    simp only [Bool.not_eq_true', decide_eq_false_iff_not] at h4
    rw [eqL_len _ (show l.length ≠ l'.length by omega)]
  simp only [Bool.not_eq_false', decide_eq_true_eq] at h4
  have h4' : l.length = l'.length := by omega
  simp -implicitDefEqProofs only [List.length_map, Tm.av_agg, Tm.av_width, Tm.av_store, Tm.av_junk, evb0, evb1, evb2, evb3, evb4, evb5, evb6, evb7, evb8, evb9, ↓evZ2, ↓evZ3, ↓Int.cast_ofNat_Int, implies_true, ne_eq, or_false, false_or, or_self, gt_iff_lt, isMut, aFn, List.contains, List.elem, aBox, aField, aLoad, sub, aNil, aPick, aExt, aFld, gd, noJunk, plainOp, aBuildSlice, aBuild, aFill, aParts, seqParts, fitAll, List.range', ↓reduceIte, reduceCtorEq, Nat.reduceEqDiff, Nat.reduceAdd, Nat.reduceLeDiff, Nat.reduceMul, Nat.reduceLT, Nat.reduceBEq, Int.reduceEq, tf_Ts2_84]
  refine arun_each (σ := Unit) [1000000] [1, 2, 15, 16] l (fun i _ => ∀ (j : Nat) (x y : Tm), j < i → l[j]? = some x → l'[j]? = some y → Tm.same x y = true) (fun i _ => [(17, .int .i64 i)]) (fun _ _ => st) (by decide +kernel) ⟨(), by intro j x y h; omega, LessL.mk (by simp -implicitDefEqProofs only [List.length_map, Tm.av_agg, Tm.av_width, Tm.av_store, Tm.av_junk, evb0, evb1, evb2, evb3, evb4, evb5, evb6, evb7, evb8, evb9, ↓evZ2, ↓evZ3, ↓Int.cast_ofNat_Int, implies_true, ne_eq, or_false, false_or, or_self, gt_iff_lt, isMut, aFn, List.contains, List.elem, aBox, aField, aLoad, sub, aNil, aPick, aExt, aFld, gd, noJunk, plainOp, aBuildSlice, aBuild, aFill, aParts, seqParts, fitAll, List.range', ↓reduceIte, reduceCtorEq, Nat.reduceEqDiff, Nat.reduceAdd, Nat.reduceLeDiff, Nat.reduceMul, Nat.reduceLT, Nat.reduceBEq, Int.reduceEq, tf_Ts2_84])⟩ (fun i x _ hx hlt hlt' hdr hall => ?_) (fun _ hge hall => ?_)
  case refine_2 =>
    simp -implicitDefEqProofs only [hge, List.length_map, Tm.av_agg, Tm.av_width, Tm.av_store, Tm.av_junk, evb0, evb1, evb2, evb3, evb4, evb5, evb6, evb7, evb8, evb9, ↓evZ2, ↓evZ3, ↓Int.cast_ofNat_Int, implies_true, ne_eq, or_false, false_or, or_self, gt_iff_lt, isMut, aFn, List.contains, List.elem, aBox, aField, aLoad, sub, aNil, aPick, aExt, aFld, gd, noJunk, plainOp, aBuildSlice, aBuild, aFill, aParts, seqParts, fitAll, List.range', ↓reduceIte, reduceCtorEq, Nat.reduceEqDiff, Nat.reduceAdd, Nat.reduceLeDiff, Nat.reduceMul, Nat.reduceLT, Nat.reduceBEq, Int.reduceEq, tf_Ts2_84]
    rw [eqL_all _ h4' (fun j x y h6 h7 => hall j x y (by have := (List.getElem?_eq_some_iff.1 h6).1; omega) h6 h7)]
  obtain ⟨y, hy⟩ : ∃ y, l'[i]? = some y := ⟨_, List.getElem?_eq_getElem (h4' ▸ hlt)⟩
  have hw := wrap64 (n := (i : Int) + 1) (by omega) (by omega)
  simp -implicitDefEqProofs only [hlt', List.length_map, Tm.av_agg, Tm.av_width, Tm.av_store, Tm.av_junk, ev_at (av := Tm.av) eI_27 hx (Tm.av_width x), ev_at (av := Tm.av) eI_27 hy (Tm.av_width y), evb0, evb1, evb2, evb3, evb4, evb5, evb6, evb7, evb8, evb9, ↓evZ2, ↓evZ3, ↓Int.cast_ofNat_Int, implies_true, ne_eq, or_false, false_or, or_self, gt_iff_lt, isMut, aFn, List.contains, List.elem, aBox, aField, aLoad, sub, aNil, aPick, aExt, aFld, gd, noJunk, plainOp, aBuildSlice, aBuild, aFill, aParts, seqParts, fitAll, List.range', ↓reduceIte, reduceCtorEq, Nat.reduceEqDiff, Nat.reduceAdd, Nat.reduceLeDiff, Nat.reduceMul, Nat.reduceLT, Nat.reduceBEq, Int.reduceEq, tf_Ts2_84]
  refine (hc x (List.mem_of_getElem? hx) y _).to ?_
  simp -implicitDefEqProofs only [List.length_map, Tm.av_agg, Tm.av_width, Tm.av_store, Tm.av_junk, ev_at (av := Tm.av) eI_27 hx (Tm.av_width x), ev_at (av := Tm.av) eI_27 hy (Tm.av_width y), evb0, evb1, evb2, evb3, evb4, evb5, evb6, evb7, evb8, evb9, ↓evZ2, ↓evZ3, ↓Int.cast_ofNat_Int, implies_true, ne_eq, or_false, false_or, or_self, gt_iff_lt, isMut, aFn, List.contains, List.elem, aBox, aField, aLoad, sub, aNil, aPick, aExt, aFld, gd, noJunk, plainOp, aBuildSlice, aBuild, aFill, aParts, seqParts, fitAll, List.range', ↓reduceIte, reduceCtorEq, Nat.reduceEqDiff, Nat.reduceAdd, Nat.reduceLeDiff, Nat.reduceMul, Nat.reduceLT, Nat.reduceBEq, Int.reduceEq, tf_Ts2_84]
  refine ⟨fun h6 => ?_, fun h6 => ?_⟩
  · simp -implicitDefEqProofs only [List.length_map, Tm.av_agg, Tm.av_width, Tm.av_store, Tm.av_junk, ev_at (av := Tm.av) eI_27 hx (Tm.av_width x), ev_at (av := Tm.av) eI_27 hy (Tm.av_width y), evb0, evb1, evb2, evb3, evb4, evb5, evb6, evb7, evb8, evb9, ↓evZ2, ↓evZ3, ↓Int.cast_ofNat_Int, implies_true, ne_eq, or_false, false_or, or_self, gt_iff_lt, isMut, aFn, List.contains, List.elem, aBox, aField, aLoad, sub, aNil, aPick, aExt, aFld, gd, noJunk, plainOp, aBuildSlice, aBuild, aFill, aParts, seqParts, fitAll, List.range', ↓reduceIte, reduceCtorEq, Nat.reduceEqDiff, Nat.reduceAdd, Nat.reduceLeDiff, Nat.reduceMul, Nat.reduceLT, Nat.reduceBEq, Int.reduceEq, tf_Ts2_84]
    have h7 : Tm.same x y = false := by simpa using h6
    rw [eqL_at _ i x y hx hy h7]
  have h7 : Tm.same x y = true := by simpa using h6
  simp -implicitDefEqProofs only [List.length_map, Tm.av_agg, Tm.av_width, Tm.av_store, Tm.av_junk, ev_at (av := Tm.av) eI_27 hx (Tm.av_width x), ev_at (av := Tm.av) eI_27 hy (Tm.av_width y), evb0, evb1, evb2, evb3, evb4, evb5, evb6, evb7, evb8, evb9, ↓evZ2, ↓evZ3, ↓Int.cast_ofNat_Int, implies_true, ne_eq, or_false, false_or, or_self, gt_iff_lt, isMut, aFn, List.contains, List.elem, aBox, aField, aLoad, sub, aNil, aPick, aExt, aFld, gd, noJunk, plainOp, aBuildSlice, aBuild, aFill, aParts, seqParts, fitAll, List.range', ↓reduceIte, reduceCtorEq, Nat.reduceEqDiff, Nat.reduceAdd, Nat.reduceLeDiff, Nat.reduceMul, Nat.reduceLT, Nat.reduceBEq, Int.reduceEq, tf_Ts2_84]
  refine ⟨(), fun j u v hj hu hv => ?_, LessL.mk (by simp -implicitDefEqProofs only [hw, List.length_map, Tm.av_agg, Tm.av_width, Tm.av_store, Tm.av_junk, ev_at (av := Tm.av) eI_27 hx (Tm.av_width x), ev_at (av := Tm.av) eI_27 hy (Tm.av_width y), evb0, evb1, evb2, evb3, evb4, evb5, evb6, evb7, evb8, evb9, ↓evZ2, ↓evZ3, ↓Int.cast_ofNat_Int, implies_true, ne_eq, or_false, false_or, or_self, gt_iff_lt, isMut, aFn, List.contains, List.elem, aBox, aField, aLoad, sub, aNil, aPick, aExt, aFld, gd, noJunk, plainOp, aBuildSlice, aBuild, aFill, aParts, seqParts, fitAll, List.range', ↓reduceIte, reduceCtorEq, Nat.reduceEqDiff, Nat.reduceAdd, Nat.reduceLeDiff, Nat.reduceMul, Nat.reduceLT, Nat.reduceBEq, Int.reduceEq, tf_Ts2_84])⟩
  rcases Nat.lt_or_ge j i with h8 | h8
  · exact hall j u v h8 hu hv
  · obtain rfl : j = i := by omega
    rw [hx] at hu; rw [hy] at hv; cases hu; cases hv; exact h7


theorem tf_Ts2_29 : (type_of% tI_2) ∧ (type_of% zI_2) ∧ (type_of% Go.Proofs.Try.underlying2) ∧ (type_of% tI_3) ∧ (type_of% zI_3) ∧ (type_of% Go.Proofs.Try.underlying3) ∧ (type_of% tI_4) ∧ (type_of% zI_4) ∧ (type_of% Go.Proofs.Try.underlying4) ∧ (type_of% tI_5) ∧ (type_of% zI_5) ∧ (type_of% Go.Proofs.Try.underlying5) ∧ (type_of% tI_9) ∧ (type_of% zI_9) ∧ (type_of% Go.Proofs.Try.underlying9) ∧ (type_of% tI_12) ∧ (type_of% zI_12) ∧ (type_of% Go.Proofs.Try.underlying12) ∧ (type_of% tI_19) ∧ (type_of% zI_19) ∧ (type_of% fI_19_0) ∧ (type_of% bI_19) ∧ (type_of% tI_27) ∧ (type_of% zI_27) ∧ (type_of% eI_27) ∧ (type_of% eB_27) ∧ (type_of% eZ_27) ∧ (type_of% Go.Proofs.Try.underlying27) ∧ (type_of% tI_31) ∧ (type_of% zI_31) ∧ (type_of% fI_31_0) ∧ (type_of% bI_31) ∧ (type_of% tI_41) ∧ (type_of% zI_41) ∧ (type_of% fI_41_0) ∧ (type_of% fI_41_1) ∧ (type_of% fI_41_2) ∧ (type_of% fI_41_3) ∧ (type_of% bI_41) := ⟨tI_2, zI_2, Go.Proofs.Try.underlying2, tI_3, zI_3, Go.Proofs.Try.underlying3, tI_4, zI_4, Go.Proofs.Try.underlying4, tI_5, zI_5, Go.Proofs.Try.underlying5, tI_9, zI_9, Go.Proofs.Try.underlying9, tI_12, zI_12, Go.Proofs.Try.underlying12, tI_19, zI_19, fI_19_0, bI_19, tI_27, zI_27, eI_27, eB_27, eZ_27, Go.Proofs.Try.underlying27, tI_31, zI_31, fI_31_0, bI_31, tI_41, zI_41, fI_41_0, fI_41_1, fI_41_2, fI_41_3, bI_41⟩
theorem c_impl_TermSame : ∀ (a b : Tm) (st : Store), ACalls prog 29 [a.av, b.av] st (fun r st' => r = .bool (a.same b) ∧ st' = st)
  | .mk k n s ts, .mk k' n' s' ts', st => by
    have hc := c_EqualFuncTerm ts ts' 29 st fun x hx y st => c_impl_TermSame x y st
    refine acalls_fit [] func29 ntmps29 rfl rfl (by kernel_rfl) (by decide +kernel) (by show 2 ≤ _; decide +kernel) ?_
    intro _
    simp only [Tm.av_mk, Tm.same_mk]
    simp -implicitDefEqProofs only [evb0, evb1, evb2, evb3, evb4, evb5, evb6, evb7, evb8, evb9, ↓evZ2, ↓evZ3, ↓Int.cast_ofNat_Int, implies_true, ne_eq, or_false, false_or, or_self, gt_iff_lt, isMut, aFn, List.contains, List.elem, aBox, aField, aLoad, sub, aNil, aPick, aExt, aFld, gd, noJunk, plainOp, aBuildSlice, aBuild, aFill, aParts, seqParts, fitAll, List.range', ↓reduceIte, reduceCtorEq, Nat.reduceEqDiff, Nat.reduceAdd, Nat.reduceLeDiff, Nat.reduceMul, Nat.reduceLT, Nat.reduceBEq, Int.reduceEq, tf_Ts2_29]
    refine opsG_split (fun h1 => ?_) (fun h1 => ?_)
    case refine_2 =>
      simp -implicitDefEqProofs only [h1, evb0, evb1, evb2, evb3, evb4, evb5, evb6, evb7, evb8, evb9, ↓evZ2, ↓evZ3, ↓Int.cast_ofNat_Int, implies_true, ne_eq, or_false, false_or, or_self, gt_iff_lt, isMut, aFn, List.contains, List.elem, aBox, aField, aLoad, sub, aNil, aPick, aExt, aFld, gd, noJunk, plainOp, aBuildSlice, aBuild, aFill, aParts, seqParts, fitAll, List.range', ↓reduceIte, reduceCtorEq, Nat.reduceEqDiff, Nat.reduceAdd, Nat.reduceLeDiff, Nat.reduceMul, Nat.reduceLT, Nat.reduceBEq, Int.reduceEq, tf_Ts2_29]
      simp at h1
      simp [h1]
    simp -implicitDefEqProofs only [h1, evb0, evb1, evb2, evb3, evb4, evb5, evb6, evb7, evb8, evb9, ↓evZ2, ↓evZ3, ↓Int.cast_ofNat_Int, implies_true, ne_eq, or_false, false_or, or_self, gt_iff_lt, isMut, aFn, List.contains, List.elem, aBox, aField, aLoad, sub, aNil, aPick, aExt, aFld, gd, noJunk, plainOp, aBuildSlice, aBuild, aFill, aParts, seqParts, fitAll, List.range', ↓reduceIte, reduceCtorEq, Nat.reduceEqDiff, Nat.reduceAdd, Nat.reduceLeDiff, Nat.reduceMul, Nat.reduceLT, Nat.reduceBEq, Int.reduceEq, tf_Ts2_29]
    refine opsG_split (fun h2 => ?_) (fun h2 => ?_)
    case refine_2 =>
      simp -implicitDefEqProofs only [h1, h2, evb0, evb1, evb2, evb3, evb4, evb5, evb6, evb7, evb8, evb9, ↓evZ2, ↓evZ3, ↓Int.cast_ofNat_Int, implies_true, ne_eq, or_false, false_or, or_self, gt_iff_lt, isMut, aFn, List.contains, List.elem, aBox, aField, aLoad, sub, aNil, aPick, aExt, aFld, gd, noJunk, plainOp, aBuildSlice, aBuild, aFill, aParts, seqParts, fitAll, List.range', ↓reduceIte, reduceCtorEq, Nat.reduceEqDiff, Nat.reduceAdd, Nat.reduceLeDiff, Nat.reduceMul, Nat.reduceLT, Nat.reduceBEq, Int.reduceEq, tf_Ts2_29]
      simp at h2
      simp [h2]
    simp -implicitDefEqProofs only [h1, h2, evb0, evb1, evb2, evb3, evb4, evb5, evb6, evb7, evb8, evb9, ↓evZ2, ↓evZ3, ↓Int.cast_ofNat_Int, implies_true, ne_eq, or_false, false_or, or_self, gt_iff_lt, isMut, aFn, List.contains, List.elem, aBox, aField, aLoad, sub, aNil, aPick, aExt, aFld, gd, noJunk, plainOp, aBuildSlice, aBuild, aFill, aParts, seqParts, fitAll, List.range', ↓reduceIte, reduceCtorEq, Nat.reduceEqDiff, Nat.reduceAdd, Nat.reduceLeDiff, Nat.reduceMul, Nat.reduceLT, Nat.reduceBEq, Int.reduceEq, tf_Ts2_29]
    refine opsG_split (fun h3 => ?_) (fun h3 => ?_)
    case refine_2 =>
      simp -implicitDefEqProofs only [h1, h2, h3, evb0, evb1, evb2, evb3, evb4, evb5, evb6, evb7, evb8, evb9, ↓evZ2, ↓evZ3, ↓Int.cast_ofNat_Int, implies_true, ne_eq, or_false, false_or, or_self, gt_iff_lt, isMut, aFn, List.contains, List.elem, aBox, aField, aLoad, sub, aNil, aPick, aExt, aFld, gd, noJunk, plainOp, aBuildSlice, aBuild, aFill, aParts, seqParts, fitAll, List.range', ↓reduceIte, reduceCtorEq, Nat.reduceEqDiff, Nat.reduceAdd, Nat.reduceLeDiff, Nat.reduceMul, Nat.reduceLT, Nat.reduceBEq, Int.reduceEq, tf_Ts2_29]
      simp at h3
      simp [h3]
    simp -implicitDefEqProofs only [h1, h2, h3, evb0, evb1, evb2, evb3, evb4, evb5, evb6, evb7, evb8, evb9, ↓evZ2, ↓evZ3, ↓Int.cast_ofNat_Int, implies_true, ne_eq, or_false, false_or, or_self, gt_iff_lt, isMut, aFn, List.contains, List.elem, aBox, aField, aLoad, sub, aNil, aPick, aExt, aFld, gd, noJunk, plainOp, aBuildSlice, aBuild, aFill, aParts, seqParts, fitAll, List.range', ↓reduceIte, reduceCtorEq, Nat.reduceEqDiff, Nat.reduceAdd, Nat.reduceLeDiff, Nat.reduceMul, Nat.reduceLT, Nat.reduceBEq, Int.reduceEq, tf_Ts2_29]
    refine hc.to ?_
    simp -implicitDefEqProofs only [h1, h2, h3, evb0, evb1, evb2, evb3, evb4, evb5, evb6, evb7, evb8, evb9, ↓evZ2, ↓evZ3, ↓Int.cast_ofNat_Int, implies_true, ne_eq, or_false, false_or, or_self, gt_iff_lt, isMut, aFn, List.contains, List.elem, aBox, aField, aLoad, sub, aNil, aPick, aExt, aFld, gd, noJunk, plainOp, aBuildSlice, aBuild, aFill, aParts, seqParts, fitAll, List.range', ↓reduceIte, reduceCtorEq, Nat.reduceEqDiff, Nat.reduceAdd, Nat.reduceLeDiff, Nat.reduceMul, Nat.reduceLT, Nat.reduceBEq, Int.reduceEq, tf_Ts2_29]
termination_by a => SizeOf.sizeOf a
decreasing_by have := List.sizeOf_lt_of_mem hx; simp only [Tm.mk.sizeOf_spec]; omega

end Go.AW


/- Unified terms are equal: the law. -/
namespace Go.AW
open Go.Proofs.Try
set_option linter.unusedSimpArgs false
set_option maxRecDepth 100000

theorem tm_same_refl (t : Tm) : t.same t = true := (Tm.same_eq t t).2 rfl

theorem tf_L1_25 : (type_of% tI_2) ∧ (type_of% zI_2) ∧ (type_of% Go.Proofs.Try.underlying2) ∧ (type_of% tI_3) ∧ (type_of% zI_3) ∧ (type_of% Go.Proofs.Try.underlying3) ∧ (type_of% tI_4) ∧ (type_of% zI_4) ∧ (type_of% Go.Proofs.Try.underlying4) ∧ (type_of% tI_5) ∧ (type_of% zI_5) ∧ (type_of% Go.Proofs.Try.underlying5) ∧ (type_of% tI_6) ∧ (type_of% zI_6) ∧ (type_of% Go.Proofs.Try.underlying6) ∧ (type_of% tI_7) ∧ (type_of% zI_7) ∧ (type_of% fI_7_0) ∧ (type_of% fI_7_1) ∧ (type_of% fI_7_2) ∧ (type_of% fI_7_3) ∧ (type_of% bI_7) ∧ (type_of% tI_8) ∧ (type_of% zI_8) ∧ (type_of% fI_8_0) ∧ (type_of% fI_8_1) ∧ (type_of% fI_8_2) ∧ (type_of% fI_8_3) ∧ (type_of% bI_8) ∧ (type_of% tI_9) ∧ (type_of% zI_9) ∧ (type_of% Go.Proofs.Try.underlying9) ∧ (type_of% tI_11) ∧ (type_of% zI_11) ∧ (type_of% Go.Proofs.Try.underlying11) ∧ (type_of% tI_12) ∧ (type_of% zI_12) ∧ (type_of% Go.Proofs.Try.underlying12) ∧ (type_of% tI_13) ∧ (type_of% zI_13) ∧ (type_of% fI_13_0) ∧ (type_of% fI_13_1) ∧ (type_of% bI_13) ∧ (type_of% tI_39) ∧ (type_of% zI_39) ∧ (type_of% eI_39) ∧ (type_of% eB_39) ∧ (type_of% eZ_39) ∧ (type_of% Go.Proofs.Try.underlying39) ∧ (type_of% tI_41) ∧ (type_of% zI_41) ∧ (type_of% fI_41_0) ∧ (type_of% fI_41_1) ∧ (type_of% fI_41_2) ∧ (type_of% fI_41_3) ∧ (type_of% bI_41) ∧ (type_of% tI_44) ∧ (type_of% zI_44) ∧ (type_of% eI_44) ∧ (type_of% eB_44) ∧ (type_of% eZ_44) ∧ (type_of% Go.Proofs.Try.underlying44) ∧ (type_of% tI_54) ∧ (type_of% zI_54) ∧ (type_of% fI_54_0) ∧ (type_of% fI_54_1) ∧ (type_of% bI_54) ∧ (type_of% tI_64) ∧ (type_of% zI_64) ∧ (type_of% fI_64_0) ∧ (type_of% fI_64_1) ∧ (type_of% bI_64) := ⟨tI_2, zI_2, Go.Proofs.Try.underlying2, tI_3, zI_3, Go.Proofs.Try.underlying3, tI_4, zI_4, Go.Proofs.Try.underlying4, tI_5, zI_5, Go.Proofs.Try.underlying5, tI_6, zI_6, Go.Proofs.Try.underlying6, tI_7, zI_7, fI_7_0, fI_7_1, fI_7_2, fI_7_3, bI_7, tI_8, zI_8, fI_8_0, fI_8_1, fI_8_2, fI_8_3, bI_8, tI_9, zI_9, Go.Proofs.Try.underlying9, tI_11, zI_11, Go.Proofs.Try.underlying11, tI_12, zI_12, Go.Proofs.Try.underlying12, tI_13, zI_13, fI_13_0, fI_13_1, bI_13, tI_39, zI_39, eI_39, eB_39, eZ_39, Go.Proofs.Try.underlying39, tI_41, zI_41, fI_41_0, fI_41_1, fI_41_2, fI_41_3, bI_41, tI_44, zI_44, eI_44, eB_44, eZ_44, Go.Proofs.Try.underlying44, tI_54, zI_54, fI_54_0, fI_54_1, bI_54, tI_64, zI_64, fI_64_0, fI_64_1, bI_64⟩
theorem c_pgBinds (bs : List Bd) (st : Store) : ACalls prog 25 [.slice (bs.map bdAv), .slice (bs.map bdAv)] st (fun r st' => r = .bool true ∧ st' = st) := by
  refine acalls_fit [1000000] func25 ntmps25 rfl rfl (by kernel_rfl) (by decide +kernel) (by show 2 ≤ _; decide +kernel) ?_
  simp only [fitsL, AV.fits, and_true, List.length_map]
  intro ⟨⟨hl, _⟩, _⟩
  simp -implicitDefEqProofs only [decide_true, List.length_map, evb0, evb1, evb2, evb3, evb4, evb5, evb6, evb7, evb8, evb9, ↓evZ2, ↓evZ3, ↓Int.cast_ofNat_Int, implies_true, ne_eq, or_false, false_or, or_self, gt_iff_lt, isMut, aFn, List.contains, List.elem, aBox, aField, aLoad, sub, aNil, aPick, aExt, aFld, gd, noJunk, plainOp, aBuildSlice, aBuild, aFill, aParts, seqParts, fitAll, List.range', ↓reduceIte, reduceCtorEq, Nat.reduceEqDiff, Nat.reduceAdd, Nat.reduceLeDiff, Nat.reduceMul, Nat.reduceLT, Nat.reduceBEq, Int.reduceEq, tf_L1_25]
  refine arun_each (σ := Unit) [1000000] [0, 1] bs (fun _ _ => True) (fun i _ => [(4, .bool false), (5, .int .i64 i)]) (fun _ _ => st) (by decide +kernel) ⟨(), trivial, LessL.mk (by simp -implicitDefEqProofs only [List.length_map, evb0, evb1, evb2, evb3, evb4, evb5, evb6, evb7, evb8, evb9, ↓evZ2, ↓evZ3, ↓Int.cast_ofNat_Int, implies_true, ne_eq, or_false, false_or, or_self, gt_iff_lt, isMut, aFn, List.contains, List.elem, aBox, aField, aLoad, sub, aNil, aPick, aExt, aFld, gd, noJunk, plainOp, aBuildSlice, aBuild, aFill, aParts, seqParts, fitAll, List.range', ↓reduceIte, reduceCtorEq, Nat.reduceEqDiff, Nat.reduceAdd, Nat.reduceLeDiff, Nat.reduceMul, Nat.reduceLT, Nat.reduceBEq, Int.reduceEq, tf_L1_25])⟩ (fun i x _ hx hlt hlt' hdr _ => ?_) (fun _ hge _ => ?_)
  case refine_2 =>
    simp -implicitDefEqProofs only [hge, List.length_map, evb0, evb1, evb2, evb3, evb4, evb5, evb6, evb7, evb8, evb9, ↓evZ2, ↓evZ3, ↓Int.cast_ofNat_Int, implies_true, ne_eq, or_false, false_or, or_self, gt_iff_lt, isMut, aFn, List.contains, List.elem, aBox, aField, aLoad, sub, aNil, aPick, aExt, aFld, gd, noJunk, plainOp, aBuildSlice, aBuild, aFill, aParts, seqParts, fitAll, List.range', ↓reduceIte, reduceCtorEq, Nat.reduceEqDiff, Nat.reduceAdd, Nat.reduceLeDiff, Nat.reduceMul, Nat.reduceLT, Nat.reduceBEq, Int.reduceEq, tf_L1_25]
  obtain ⟨n, t⟩ := x
  have hw := wrap64 (n := (i : Int) + 1) (by omega) (by omega)
  have hat := ev_at (av := bdAv) eI_44 hx (bdAv_width _)
  have hbd : bdAv (n, t) = .agg (.int .i64 n :: t.av.cells) := rfl
  simp -implicitDefEqProofs only [hlt', List.length_map, hat, hbd, bdAv_width, Tm.av_agg, Tm.av_width, take_all (Tm.av_cells _), agg_cells (Tm.av_agg _), Tm.av_cells, Nat.le_refl, hw, evb0, evb1, evb2, evb3, evb4, evb5, evb6, evb7, evb8, evb9, ↓evZ2, ↓evZ3, ↓Int.cast_ofNat_Int, implies_true, ne_eq, or_false, false_or, or_self, gt_iff_lt, isMut, aFn, List.contains, List.elem, aBox, aField, aLoad, sub, aNil, aPick, aExt, aFld, gd, noJunk, plainOp, aBuildSlice, aBuild, aFill, aParts, seqParts, fitAll, List.range', ↓reduceIte, reduceCtorEq, Nat.reduceEqDiff, Nat.reduceAdd, Nat.reduceLeDiff, Nat.reduceMul, Nat.reduceLT, Nat.reduceBEq, Int.reduceEq, tf_L1_25]
  refine arun_planX [(0, 1), (1, 1), (2, 1), (3, 1), (4, 1), (5, 1), (6, 1), (7, 1), (8, 1), (9, 1), (10, 1), (11, 1), (12, 1), (13, 1), (14, 1), (15, 1), (16, 1), (17, 1), (18, 1), (19, 1), (20, 1), (21, 1), (22, 0), (23, 1), (24, 1)] [0, 1, 2, 3, 4, 5, 6, 7, 8, 9, 10, 11, 12, 13, 14, 15, 16, 17, 18, 19, 20, 21, 23, 24] none0' mixed (by decide +kernel) (by decide +kernel) (by decide +kernel) rfl ext_none ?_
  simp -implicitDefEqProofs only [decide_true, beq_self_eq_true, List.length_map, hat, hbd, bdAv_width, Tm.av_agg, Tm.av_width, take_all (Tm.av_cells _), agg_cells (Tm.av_agg _), Tm.av_cells, Nat.le_refl, hw, evb0, evb1, evb2, evb3, evb4, evb5, evb6, evb7, evb8, evb9, ↓evZ2, ↓evZ3, ↓Int.cast_ofNat_Int, implies_true, ne_eq, or_false, false_or, or_self, gt_iff_lt, isMut, aFn, List.contains, List.elem, aBox, aField, aLoad, sub, aNil, aPick, aExt, aFld, gd, noJunk, plainOp, aBuildSlice, aBuild, aFill, aParts, seqParts, fitAll, List.range', ↓reduceIte, reduceCtorEq, Nat.reduceEqDiff, Nat.reduceAdd, Nat.reduceLeDiff, Nat.reduceMul, Nat.reduceLT, Nat.reduceBEq, Int.reduceEq, tf_L1_25]
  refine (c_impl_TermSame t t _).to ?_
  rw [tm_same_refl]
  simp -implicitDefEqProofs only [List.length_map, hat, hbd, bdAv_width, Tm.av_agg, Tm.av_width, take_all (Tm.av_cells _), agg_cells (Tm.av_agg _), Tm.av_cells, Nat.le_refl, hw, evb0, evb1, evb2, evb3, evb4, evb5, evb6, evb7, evb8, evb9, ↓evZ2, ↓evZ3, ↓Int.cast_ofNat_Int, implies_true, ne_eq, or_false, false_or, or_self, gt_iff_lt, isMut, aFn, List.contains, List.elem, aBox, aField, aLoad, sub, aNil, aPick, aExt, aFld, gd, noJunk, plainOp, aBuildSlice, aBuild, aFill, aParts, seqParts, fitAll, List.range', ↓reduceIte, reduceCtorEq, Nat.reduceEqDiff, Nat.reduceAdd, Nat.reduceLeDiff, Nat.reduceMul, Nat.reduceLT, Nat.reduceBEq, Int.reduceEq, tf_L1_25]
  refine ⟨ext_none, ?_⟩
  exact ⟨(), LessL.mk (by simp -implicitDefEqProofs only [List.length_map, hat, hbd, bdAv_width, Tm.av_agg, Tm.av_width, take_all (Tm.av_cells _), agg_cells (Tm.av_agg _), Tm.av_cells, Nat.le_refl, hw, evb0, evb1, evb2, evb3, evb4, evb5, evb6, evb7, evb8, evb9, ↓evZ2, ↓evZ3, ↓Int.cast_ofNat_Int, implies_true, ne_eq, or_false, false_or, or_self, gt_iff_lt, isMut, aFn, List.contains, List.elem, aBox, aField, aLoad, sub, aNil, aPick, aExt, aFld, gd, noJunk, plainOp, aBuildSlice, aBuild, aFill, aParts, seqParts, fitAll, List.range', ↓reduceIte, reduceCtorEq, Nat.reduceEqDiff, Nat.reduceAdd, Nat.reduceLeDiff, Nat.reduceMul, Nat.reduceLT, Nat.reduceBEq, Int.reduceEq, tf_L1_25])⟩
theorem zero_cells : (Value.agg #[Value.int IntKind.i64 0, Value.int IntKind.i64 0, Value.string ⟨#[]⟩, Value.slice none 0 0]).cells.toList.map ofConst = [.int .i64 0, .int .i64 0, .str ⟨#[]⟩, .fslice []] := rfl
theorem uniAv_none : uniAv none = .tup [.slice [], .bool false] := rfl
theorem uniAv_some (bs : List Bd) : uniAv (some bs) = .tup [.slice (bs.map bdAv), .bool true] := rfl

end Go.AW

/- Unification either way: plain facts. -/
namespace Go.AW
set_option linter.unusedSimpArgs false
set_option linter.unusedVariables false

theorem sumL_map_le {f : Tm → Nat} {g : Tm → Tm} : ∀ {l : List Tm}, (∀ x ∈ l, f x ≤ f (g x)) → sumL f l ≤ sumL f (l.map g)
  | [], _ => Nat.le_refl _
  | x :: l, h => by
    have h1 := h x (by simp)
    have h2 := sumL_map_le (f := f) (g := g) (l := l) fun y hy => h y (by simp [hy])
    simp only [List.map_cons, sumL]
    omega
/-- What is replaced is not made smaller. -/
theorem nodes_le (f : Int → Tm) : ∀ t : Tm, t.cv = true → t.nodes ≤ (t.mapv f).nodes := by
  intro t
  induction t using Tm.ind with
  | h k n s ts ih =>
    intro h
    obtain ⟨h1, h2⟩ := Tm.cv_mk.1 h
    by_cases hk : k = 1
    · rw [Tm.mapv_var f hk, Tm.nodes_mk, (h1 hk).2]
      exact Tm.nodes_pos _
    · rw [Tm.mapv_mk f hk, Tm.nodes_mk, Tm.nodes_mk]
      have := sumL_map_le (f := Tm.nodes) (g := Tm.mapv f) fun x hx => ih x hx (h2 x hx)
      omega
theorem flat_le (f : Int → Tm) : ∀ (t : Tm) (d : Nat), t.cv = true → (t.mapv f).flat d = true → t.flat d = true := by
  intro t
  induction t using Tm.ind with
  | h k n s ts ih =>
    intro d h hf
    obtain ⟨h1, h2⟩ := Tm.cv_mk.1 h
    cases d with
    | zero => rw [Tm.flat_zero] at hf; cases hf
    | succ d =>
      by_cases hk : k = 1
      · rw [Tm.flat_succ, (h1 hk).2]; rfl
      · rw [Tm.mapv_mk f hk, Tm.flat_succ, List.all_map, List.all_eq_true] at hf
        rw [Tm.flat_succ, List.all_eq_true]
        exact fun x hx => ih x hx d (h2 x hx) (hf x hx)
theorem valid_le {f : Int → Tm} {t : Tm} (h : t.okA = true) (hv : (t.mapv f).valid = true) : t.valid = true := by
  have h1 := Tm.valid_okA hv
  rw [Tm.valid_iff h1, Bool.and_eq_true, decide_eq_true_eq] at hv
  rw [Tm.valid_iff h, Bool.and_eq_true, decide_eq_true_eq]
  exact ⟨flat_le f t 30 (Tm.okA_cv t h) hv.1, Nat.le_trans (nodes_le f t (Tm.okA_cv t h)) hv.2⟩
theorem vr_valid {n : Int} (h : n ∈ V25) : (vr n).valid = true := by
  rw [Tm.valid_iff (vr_okA h)]
  rfl

theorem Sol.none (θ : Int → Tm) : Sol θ Sub.none := fun n u h => by cases h
theorem Unif.free {a b : Tm} {r : Bool} {σ : Sub} {tr : List Int} (h : Unif a b r σ tr) {θ : Int → Tm} (e : a.mapv θ = b.mapv θ) : r = true ∧ Sol θ σ := h.uni.gen θ (Sol.none θ) (by simp [e])
/-- A larger solution is valid: so is this one. -/
theorem Unif.fits {a b : Tm} {r : Bool} {σ : Sub} {tr : List Int} (h : Unif a b r σ tr) {θ : Int → Tm} (S : Sol θ σ) (hv : ∀ n ∈ V25, (θ n).valid = true) : ((bindsOf σ).all fun x => x.2.valid) = true := by
  obtain ⟨rk, B, G⟩ := h.uni.good.rs
  rw [List.all_eq_true]
  intro x hx
  obtain ⟨i, u, hi, hs, rfl⟩ := bindsOf_mem hx
  have hV : (i : Int) ∈ V25 := mem_V25.2 ⟨by omega, by omega⟩
  show (u.mapv (rs σ)).valid = true
  rw [← G.bound hs]
  have e := G.factor S (i : Int)
  exact valid_le (f := θ) (G.okA h.okA i hV) (by rw [e]; exact hv i hV)
theorem Unif.vals {a b : Tm} {r : Bool} {σ : Sub} {tr : List Int} (h : Unif a b r σ tr) (hv : ((bindsOf σ).all fun x => x.2.valid) = true) : ∀ n ∈ V25, (rs σ n).valid = true := by
  obtain ⟨rk, B, G⟩ := h.uni.good.rs
  intro n hn
  cases hs : σ n with
  | none => rw [G.free hs]; exact vr_valid hn
  | some u =>
    obtain ⟨h0, h1⟩ := mem_V25.1 hn
    obtain ⟨i, rfl⟩ : ∃ i : Nat, n = i := ⟨n.toNat, by omega⟩
    have : ((i : Int), u.mapv (rs σ)) ∈ bindsOf σ := by
      unfold bindsOf
      rw [List.mem_filterMap]
      exact ⟨i, by simp; omega, by simp [hs]⟩
    have := List.all_eq_true.1 hv _ this
    rw [G.bound hs]
    exact this

/-! ### Variants -/
theorem mapv_id : ∀ t : Tm, t.cv = true → t.mapv vr = t := by
  intro t
  induction t using Tm.ind with
  | h k n s ts ih =>
    intro h
    obtain ⟨h1, h2⟩ := Tm.cv_mk.1 h
    by_cases hk : k = 1
    · obtain ⟨rfl, rfl⟩ := h1 hk
      rw [Tm.mapv_var vr hk, hk]; rfl
    · rw [Tm.mapv_mk vr hk]
      congr 1
      have : ∀ l : List Tm, (∀ x ∈ l, x ∈ ts) → l.map (Tm.mapv vr) = l := by
        intro l
        induction l with
        | nil => intro _; rfl
        | cons x l ihl => intro hl; rw [List.map_cons, ih x (hl x (by simp)) (h2 x (hl x (by simp))), ihl fun y hy => hl y (by simp [hy])]
      exact this ts fun _ h => h
theorem mapv_inj {f g : Int → Tm} : ∀ t : Tm, t.mapv f = t.mapv g → ∀ v ∈ t.vl, f v = g v := by
  intro t
  induction t using Tm.ind with
  | h k n s ts ih =>
    intro h v hv
    by_cases hk : k = 1
    · rw [Tm.mapv_var f hk, Tm.mapv_var g hk] at h
      rw [Tm.vl_var hk] at hv
      simp only [List.mem_cons, List.not_mem_nil, or_false] at hv
      rw [hv]; exact h
    · rw [Tm.mapv_mk f hk, Tm.mapv_mk g hk] at h
      injection h with _ _ _ h4
      obtain ⟨x, hx, hvx⟩ := (Tm.vl_mk hk).1 hv
      obtain ⟨i, hi⟩ := List.mem_iff_getElem?.1 hx
      have := congrArg (fun l => l[i]?) h4
      simp only [List.getElem?_map, hi, Option.map_some, Option.some.injEq] at this
      exact ih x hx this v hvx
/-- Numbered anew. -/
def renum (t : Tm) : Tm := t.mapv fun v => vr (idxI v (t.vars []) 0)
theorem vars_map {D : Int → Prop} {h : Int → Int} (inj : ∀ v w, D v → D w → h v = h w → v = w) {f : Int → Tm} (hf : ∀ v, D v → f v = vr (h v)) :
    ∀ (t : Tm), t.wf = true → (∀ v ∈ t.vl, D v) → ∀ l : List Int, (∀ v ∈ l, D v) → (t.mapv f).vars (l.map h) = (t.vars l).map h ∧ ∀ v ∈ t.vars l, D v := by
  intro t
  induction t using Tm.ind with
  | h k n s ts ih =>
    intro hw hD l hl
    obtain ⟨hk1, hws⟩ := Tm.wf_mk hw
    by_cases hk : k = 1
    · obtain rfl := hk1 hk
      have hDn : D n := hD n (by rw [Tm.vl_var hk]; simp)
      have hmem : h n ∈ l.map h ↔ n ∈ l := by
        rw [List.mem_map]
        exact ⟨fun ⟨m, hm, e⟩ => by rw [← inj m n (hl m hm) hDn e]; exact hm, fun hm => ⟨n, hm, rfl⟩⟩
      rw [Tm.mapv_var f hk, hf n hDn, vr, Tm.vars, Tm.vars]
      simp only [tmsVars, hk, true_and, hmem]
      split
      · exact ⟨by simp, fun v hv => by
          rcases List.mem_append.1 hv with hv | hv
          · exact hl v hv
          · simp only [List.mem_cons, List.not_mem_nil, or_false] at hv; rw [hv]; exact hDn⟩
      · exact ⟨rfl, hl⟩
    · rw [Tm.mapv_mk f hk, Tm.vars, Tm.vars, if_neg (fun h => hk h.1), if_neg (fun h => hk h.1)]
      have : ∀ xs : List Tm, (∀ x ∈ xs, x ∈ ts) → ∀ l : List Int, (∀ v ∈ l, D v) → tmsVars (xs.map (Tm.mapv f)) (l.map h) = (tmsVars xs l).map h ∧ ∀ v ∈ tmsVars xs l, D v := by
        intro xs
        induction xs with
        | nil => intro _ l hl; exact ⟨rfl, hl⟩
        | cons x xs ihx =>
          intro hs l hl
          have hx := hs x (by simp)
          obtain ⟨e1, e2⟩ := ih x hx (hws x hx) (fun v hv => hD v ((Tm.vl_mk hk).2 ⟨x, hx, hv⟩)) l hl
          simp only [List.map_cons, tmsVars]
          rw [e1]
          exact ihx (fun y hy => hs y (by simp [hy])) _ e2
      exact this ts (fun _ h => h) l hl
theorem idxI_map {D : Int → Prop} {h : Int → Int} (inj : ∀ v w, D v → D w → h v = h w → v = w) (v : Int) (hv : D v) : ∀ (l : List Int) (i : Int), (∀ w ∈ l, D w) → idxI (h v) (l.map h) i = idxI v l i
  | [], i, _ => rfl
  | x :: l, i, hl => by
    simp only [List.map_cons, idxI]
    by_cases e : v = x
    · rw [if_pos e, if_pos (by rw [e])]
    · rw [if_neg e, if_neg (fun e2 => e (inj v x hv (hl x (by simp)) e2))]
      exact idxI_map inj v hv l (i + 1) fun w hw => hl w (by simp [hw])
/-- Instances of each other are numbered anew to the same. -/
theorem variant {x y : Tm} {f g : Int → Tm} (hx : x.cv = true) (hf : ∀ v ∈ x.vl, (f v).cv = true) (e1 : y = x.mapv f) (e2 : x = y.mapv g) : renum x = renum y := by
  have h1 : ∀ v ∈ x.vl, (f v).mapv g = vr v := by
    have : x.mapv (fun v => (f v).mapv g) = x.mapv vr := by rw [← mapv_mapv, ← e1, ← e2, mapv_id x hx]
    exact mapv_inj x this
  have h2 : ∀ v ∈ x.vl, f v = vr (f v).n := fun v hv => by
    refine Tm.cv_vr (hf v hv) (Classical.byContradiction fun hk => ?_)
    have := h1 v hv
    rw [Tm.mapv_k g hk] at this
    have := congrArg Tm.k this
    exact hk this
  have inj : ∀ v w, v ∈ x.vl → w ∈ x.vl → (f v).n = (f w).n → v = w := fun v w hv hw e => by
    have := h1 v hv
    rw [h2 v hv, e, ← h2 w hw, h1 w hw] at this
    have := congrArg Tm.n this
    exact this.symm
  obtain ⟨a1, a2⟩ := vars_map (D := fun v => v ∈ x.vl) (h := fun v => (f v).n) inj (f := f) h2 x (Tm.cv_wf x hx) (fun _ h => h) [] (fun v h => by cases h)
  have a1' : y.vars [] = (x.vars []).map fun v => (f v).n := by rw [e1]; exact a1
  unfold renum
  conv => rhs; rw [e1]
  rw [mapv_mapv]
  refine mapv_congr x fun v hv => ?_
  have : (fun w => vr (idxI w ((x.mapv f).vars []) 0)) = fun w => vr (idxI w (y.vars []) 0) := by rw [← e1]
  rw [h2 v hv, mapv_vr, ← e1, a1', idxI_map (D := fun v => v ∈ x.vl) (h := fun v => (f v).n) inj v hv (x.vars []) 0 a2]

/-! ### Either way -/
theorem uni_swap {a b : Tm} {r r' : Bool} {σ σ' : Sub} {tr tr' : List Int} (h : Unif a b r σ tr) (h' : Unif b a r' σ' tr') (hr : r = true) : r' = true ∧ (∀ n, (rs σ' n).mapv (rs σ) = rs σ n) := by
  obtain ⟨rk, B, G⟩ := h.uni.good.rs
  obtain ⟨rk', B', G'⟩ := h'.uni.good.rs
  have e : a.mapv (rs σ) = b.mapv (rs σ) := by simpa using h.uni.eq hr
  obtain ⟨h1, S⟩ := h'.free e.symm
  exact ⟨h1, G'.factor S⟩
theorem uniB_swap {a b : Tm} {bs : List Bd} (h : uniB a b = some bs) : ∃ bs', uniB b a = some bs' ∧ ((a.mapv (subB bs)).valid = (a.mapv (subB bs')).valid) ∧ renum (a.mapv (subB bs)) = renum (a.mapv (subB bs')) := by
  obtain ⟨σ, tr, hU, rfl, hF⟩ := uniB_some h
  obtain ⟨r', σ', tr', hU', hR'⟩ := unif_of hF.vb hF.va
  obtain ⟨rfl, f1⟩ := uni_swap hU hU' rfl
  obtain ⟨_, f2⟩ := uni_swap hU' hU rfl
  obtain ⟨rk, B, G⟩ := hU.uni.good.rs
  obtain ⟨rk', B', G'⟩ := hU'.uni.good.rs
  have S : Sol (rs σ) σ' := (hU'.free (by simpa using (hU.uni.eq rfl).symm)).2
  have hv := hU'.fits S (hU.vals hF.vs)
  have oa := Tm.valid_okA hF.va
  refine ⟨bindsOf σ', ?_, ?_, ?_⟩
  · unfold uniB
    rw [hR']
    exact if_pos ⟨hF.vb, hF.va, rfl, hv⟩
  · rw [hU.subB, hU'.subB]
    have e1 : (a.mapv (rs σ')).mapv (rs σ) = a.mapv (rs σ) := by rw [mapv_mapv]; exact mapv_congr a fun v _ => f1 v
    have e2 : (a.mapv (rs σ)).mapv (rs σ') = a.mapv (rs σ') := by rw [mapv_mapv]; exact mapv_congr a fun v _ => f2 v
    rw [Bool.eq_iff_iff]
    exact ⟨fun hh => valid_le (f := rs σ) (G'.okT hU'.okA oa) (by rw [e1]; exact hh), fun hh => valid_le (f := rs σ') (G.okT hU.okA oa) (by rw [e2]; exact hh)⟩
  · rw [hU.subB, hU'.subB]
    have e1 : (a.mapv (rs σ')).mapv (rs σ) = a.mapv (rs σ) := by rw [mapv_mapv]; exact mapv_congr a fun v _ => f1 v
    have e2 : (a.mapv (rs σ)).mapv (rs σ') = a.mapv (rs σ') := by rw [mapv_mapv]; exact mapv_congr a fun v _ => f2 v
    have okx := G.okT hU.okA oa
    exact variant (f := rs σ') (g := rs σ) (Tm.okA_cv _ okx) (fun v hv => Tm.okA_cv _ (G'.okA hU'.okA v (Tm.okA_inV _ okx v hv))) e2.symm e1.symm
end Go.AW


/- Unification either way: variants, the law. -/
namespace Go.AW
open Go.Proofs.Try
set_option linter.unusedSimpArgs false
set_option maxRecDepth 100000

theorem tf_L3_144 : (type_of% tI_3) ∧ (type_of% zI_3) ∧ (type_of% Go.Proofs.Try.underlying3) ∧ (type_of% tI_4) ∧ (type_of% zI_4) ∧ (type_of% Go.Proofs.Try.underlying4) ∧ (type_of% tI_5) ∧ (type_of% zI_5) ∧ (type_of% Go.Proofs.Try.underlying5) ∧ (type_of% tI_6) ∧ (type_of% zI_6) ∧ (type_of% Go.Proofs.Try.underlying6) ∧ (type_of% tI_7) ∧ (type_of% zI_7) ∧ (type_of% fI_7_0) ∧ (type_of% fI_7_1) ∧ (type_of% fI_7_2) ∧ (type_of% fI_7_3) ∧ (type_of% bI_7) ∧ (type_of% tI_8) ∧ (type_of% zI_8) ∧ (type_of% fI_8_0) ∧ (type_of% fI_8_1) ∧ (type_of% fI_8_2) ∧ (type_of% fI_8_3) ∧ (type_of% bI_8) ∧ (type_of% tI_41) ∧ (type_of% zI_41) ∧ (type_of% fI_41_0) ∧ (type_of% fI_41_1) ∧ (type_of% fI_41_2) ∧ (type_of% fI_41_3) ∧ (type_of% bI_41) ∧ (type_of% tI_63) ∧ (type_of% zI_63) ∧ (type_of% fI_63_0) ∧ (type_of% fI_63_1) ∧ (type_of% bI_63) ∧ (type_of% tI_93) ∧ (type_of% zI_93) ∧ (type_of% eI_93) ∧ (type_of% eB_93) ∧ (type_of% eZ_93) ∧ (type_of% Go.Proofs.Try.underlying93) := ⟨tI_3, zI_3, Go.Proofs.Try.underlying3, tI_4, zI_4, Go.Proofs.Try.underlying4, tI_5, zI_5, Go.Proofs.Try.underlying5, tI_6, zI_6, Go.Proofs.Try.underlying6, tI_7, zI_7, fI_7_0, fI_7_1, fI_7_2, fI_7_3, bI_7, tI_8, zI_8, fI_8_0, fI_8_1, fI_8_2, fI_8_3, bI_8, tI_41, zI_41, fI_41_0, fI_41_1, fI_41_2, fI_41_3, bI_41, tI_63, zI_63, fI_63_0, fI_63_1, bI_63, tI_93, zI_93, eI_93, eB_93, eZ_93, Go.Proofs.Try.underlying93⟩
theorem c_renumbered_1 (vars : List Int) (n : Int) (st : Store) : ACalls prog 144 [.int .i64 n, .pptr (.slice (vars.map iv))] st (fun r st' => r = (vr (idxI n vars 0)).av ∧ st' = st) := by
  refine ACalls.done ?_
  refine acalls_fit [1000000] func144 ntmps144 rfl rfl (by kernel_rfl) (by decide +kernel) (by show 2 ≤ _; decide +kernel) ?_
  intro _
  simp -implicitDefEqProofs only [setCells, Tm.av_agg, Tm.av_width, Tm.av_store, Tm.av_junk, Tm.av_cells, Nat.le_refl, take_all (Tm.av_cells _), agg_cells (Tm.av_agg _), evb0, evb1, evb2, evb3, evb4, evb5, evb6, evb7, evb8, evb9, ↓evZ2, ↓evZ3, ↓Int.cast_ofNat_Int, implies_true, ne_eq, or_false, false_or, or_self, gt_iff_lt, isMut, aFn, List.contains, List.elem, aBox, aField, aLoad, sub, aNil, aPick, aExt, aFld, gd, noJunk, plainOp, aBuildSlice, aBuild, aFill, aParts, seqParts, fitAll, List.range', ↓reduceIte, reduceCtorEq, Nat.reduceEqDiff, Nat.reduceAdd, Nat.reduceLeDiff, Nat.reduceMul, Nat.reduceLT, Nat.reduceBEq, Int.reduceEq, tf_L3_144]
  intro b hb
  refine (c_IndexInt vars n _).to ?_
  simp -implicitDefEqProofs only [setCells, Tm.av_agg, Tm.av_width, Tm.av_store, Tm.av_junk, Tm.av_cells, Nat.le_refl, take_all (Tm.av_cells _), agg_cells (Tm.av_agg _), evb0, evb1, evb2, evb3, evb4, evb5, evb6, evb7, evb8, evb9, ↓evZ2, ↓evZ3, ↓Int.cast_ofNat_Int, implies_true, ne_eq, or_false, false_or, or_self, gt_iff_lt, isMut, aFn, List.contains, List.elem, aBox, aField, aLoad, sub, aNil, aPick, aExt, aFld, gd, noJunk, plainOp, aBuildSlice, aBuild, aFill, aParts, seqParts, fitAll, List.range', ↓reduceIte, reduceCtorEq, Nat.reduceEqDiff, Nat.reduceAdd, Nat.reduceLeDiff, Nat.reduceMul, Nat.reduceLT, Nat.reduceBEq, Int.reduceEq, tf_L3_144]
  refine (c_variable _ _).to ?_
  simp -implicitDefEqProofs only [setCells, Tm.av_agg, Tm.av_width, Tm.av_store, Tm.av_junk, Tm.av_cells, Nat.le_refl, take_all (Tm.av_cells _), agg_cells (Tm.av_agg _), evb0, evb1, evb2, evb3, evb4, evb5, evb6, evb7, evb8, evb9, ↓evZ2, ↓evZ3, ↓Int.cast_ofNat_Int, implies_true, ne_eq, or_false, false_or, or_self, gt_iff_lt, isMut, aFn, List.contains, List.elem, aBox, aField, aLoad, sub, aNil, aPick, aExt, aFld, gd, noJunk, plainOp, aBuildSlice, aBuild, aFill, aParts, seqParts, fitAll, List.range', ↓reduceIte, reduceCtorEq, Nat.reduceEqDiff, Nat.reduceAdd, Nat.reduceLeDiff, Nat.reduceMul, Nat.reduceLT, Nat.reduceBEq, Int.reduceEq, tf_L3_144]
  exact ⟨Tm.soft _, (Drops.refl _).upd hb⟩
/-- Numbered anew, all together. -/
def renumL (l : List Tm) : List Tm := l.map fun t => t.mapv fun v => vr (idxI v (tmsVars l []) 0)
theorem tf_L3_102 : (type_of% tI_2) ∧ (type_of% zI_2) ∧ (type_of% Go.Proofs.Try.underlying2) ∧ (type_of% tI_3) ∧ (type_of% zI_3) ∧ (type_of% Go.Proofs.Try.underlying3) ∧ (type_of% tI_4) ∧ (type_of% zI_4) ∧ (type_of% Go.Proofs.Try.underlying4) ∧ (type_of% tI_5) ∧ (type_of% zI_5) ∧ (type_of% Go.Proofs.Try.underlying5) ∧ (type_of% tI_6) ∧ (type_of% zI_6) ∧ (type_of% Go.Proofs.Try.underlying6) ∧ (type_of% tI_7) ∧ (type_of% zI_7) ∧ (type_of% fI_7_0) ∧ (type_of% fI_7_1) ∧ (type_of% fI_7_2) ∧ (type_of% fI_7_3) ∧ (type_of% bI_7) ∧ (type_of% tI_8) ∧ (type_of% zI_8) ∧ (type_of% fI_8_0) ∧ (type_of% fI_8_1) ∧ (type_of% fI_8_2) ∧ (type_of% fI_8_3) ∧ (type_of% bI_8) ∧ (type_of% tI_9) ∧ (type_of% zI_9) ∧ (type_of% Go.Proofs.Try.underlying9) ∧ (type_of% tI_10) ∧ (type_of% zI_10) ∧ (type_of% Go.Proofs.Try.underlying10) ∧ (type_of% tI_11) ∧ (type_of% zI_11) ∧ (type_of% Go.Proofs.Try.underlying11) ∧ (type_of% tI_15) ∧ (type_of% zI_15) ∧ (type_of% tI_16) ∧ (type_of% zI_16) ∧ (type_of% tI_17) ∧ (type_of% zI_17) ∧ (type_of% tI_18) ∧ (type_of% zI_18) ∧ (type_of% fI_18_0) ∧ (type_of% bI_18) ∧ (type_of% tI_19) ∧ (type_of% zI_19) ∧ (type_of% fI_19_0) ∧ (type_of% bI_19) ∧ (type_of% tI_21) ∧ (type_of% zI_21) ∧ (type_of% Go.Proofs.Try.underlying21) ∧ (type_of% tI_23) ∧ (type_of% zI_23) ∧ (type_of% fI_23_0) ∧ (type_of% bI_23) ∧ (type_of% tI_27) ∧ (type_of% zI_27) ∧ (type_of% eI_27) ∧ (type_of% eB_27) ∧ (type_of% eZ_27) ∧ (type_of% Go.Proofs.Try.underlying27) ∧ (type_of% tI_41) ∧ (type_of% zI_41) ∧ (type_of% fI_41_0) ∧ (type_of% fI_41_1) ∧ (type_of% fI_41_2) ∧ (type_of% fI_41_3) ∧ (type_of% bI_41) ∧ (type_of% tI_60) ∧ (type_of% zI_60) ∧ (type_of% eI_60) ∧ (type_of% eB_60) ∧ (type_of% eZ_60) ∧ (type_of% Go.Proofs.Try.underlying60) ∧ (type_of% tI_64) ∧ (type_of% zI_64) ∧ (type_of% fI_64_0) ∧ (type_of% fI_64_1) ∧ (type_of% bI_64) ∧ (type_of% tI_93) ∧ (type_of% zI_93) ∧ (type_of% eI_93) ∧ (type_of% eB_93) ∧ (type_of% eZ_93) ∧ (type_of% Go.Proofs.Try.underlying93) := ⟨tI_2, zI_2, Go.Proofs.Try.underlying2, tI_3, zI_3, Go.Proofs.Try.underlying3, tI_4, zI_4, Go.Proofs.Try.underlying4, tI_5, zI_5, Go.Proofs.Try.underlying5, tI_6, zI_6, Go.Proofs.Try.underlying6, tI_7, zI_7, fI_7_0, fI_7_1, fI_7_2, fI_7_3, bI_7, tI_8, zI_8, fI_8_0, fI_8_1, fI_8_2, fI_8_3, bI_8, tI_9, zI_9, Go.Proofs.Try.underlying9, tI_10, zI_10, Go.Proofs.Try.underlying10, tI_11, zI_11, Go.Proofs.Try.underlying11, tI_15, zI_15, tI_16, zI_16, tI_17, zI_17, tI_18, zI_18, fI_18_0, bI_18, tI_19, zI_19, fI_19_0, bI_19, tI_21, zI_21, Go.Proofs.Try.underlying21, tI_23, zI_23, fI_23_0, bI_23, tI_27, zI_27, eI_27, eB_27, eZ_27, Go.Proofs.Try.underlying27, tI_41, zI_41, fI_41_0, fI_41_1, fI_41_2, fI_41_3, bI_41, tI_60, zI_60, eI_60, eB_60, eZ_60, Go.Proofs.Try.underlying60, tI_64, zI_64, fI_64_0, fI_64_1, bI_64, tI_93, zI_93, eI_93, eB_93, eZ_93, Go.Proofs.Try.underlying93⟩
theorem c_renumbered (l : List Tm) (hln : l.length ≤ 1048576) (hsz : sumL Tm.nodes l ≤ 1099511627776) (hsm : ∀ t ∈ l, t.small = true) (st : Store) : ACalls prog 102 [.slice (l.map Tm.av)] st (fun r st' => r = .slice ((renumL l).map Tm.av) ∧ st' = st) := by
  refine ACalls.done ?_
  refine acalls_fit [1000000] func102 ntmps102 rfl rfl (by kernel_rfl) (by decide +kernel) (by show 1 ≤ _; decide +kernel) ?_
  simp only [fitsL, AV.fits, and_true, List.length_map]
  intro ⟨hl, _⟩
  simp -implicitDefEqProofs only [List.length_map, evb0, evb1, evb2, evb3, evb4, evb5, evb6, evb7, evb8, evb9, ↓evZ2, ↓evZ3, ↓Int.cast_ofNat_Int, implies_true, ne_eq, or_false, false_or, or_self, gt_iff_lt, isMut, aFn, List.contains, List.elem, aBox, aField, aLoad, sub, aNil, aPick, aExt, aFld, gd, noJunk, plainOp, aBuildSlice, aBuild, aFill, aParts, seqParts, fitAll, List.range', ↓reduceIte, reduceCtorEq, Nat.reduceEqDiff, Nat.reduceAdd, Nat.reduceLeDiff, Nat.reduceMul, Nat.reduceLT, Nat.reduceBEq, Int.reduceEq, tf_L3_102]
  refine (c_varsOf l _ hsz).to ?_
  simp -implicitDefEqProofs only [List.length_map, evb0, evb1, evb2, evb3, evb4, evb5, evb6, evb7, evb8, evb9, ↓evZ2, ↓evZ3, ↓Int.cast_ofNat_Int, implies_true, ne_eq, or_false, false_or, or_self, gt_iff_lt, isMut, aFn, List.contains, List.elem, aBox, aField, aLoad, sub, aNil, aPick, aExt, aFld, gd, noJunk, plainOp, aBuildSlice, aBuild, aFill, aParts, seqParts, fitAll, List.range', ↓reduceIte, reduceCtorEq, Nat.reduceEqDiff, Nat.reduceAdd, Nat.reduceLeDiff, Nat.reduceMul, Nat.reduceLT, Nat.reduceBEq, Int.reduceEq, tf_L3_102]
  generalize hv : tmsVars l [] = vars
  have hR : renumL l = l.map fun t => t.mapv fun v => vr (idxI v vars 0) := by rw [← hv]; rfl
  rw [hR]
  refine arun_grow (σ := Unit) [1000000] [2, 3, 9, 10] (l) 4 4 (fun i _ => (((l).take i).map (fun t => t.mapv fun v => vr (idxI v vars 0))).map Tm.av) (fun _ _ => True) (fun i _ => [(11, .int .i64 i)]) (fun _ _ => st) (fun i _ _ e he => by simp only [List.mem_map] at he; obtain ⟨t, _, rfl⟩ := he; exact ⟨Tm.av_junk t, Tm.av_width t⟩) (by decide +kernel) ⟨(), 0, trivial, fun h => absurd rfl h, LessL.mk (by simp -implicitDefEqProofs only [accV_nil, accS_nil, List.take_zero, List.map_nil, List.length_map, List.length_map, evb0, evb1, evb2, evb3, evb4, evb5, evb6, evb7, evb8, evb9, ↓evZ2, ↓evZ3, ↓Int.cast_ofNat_Int, implies_true, ne_eq, or_false, false_or, or_self, gt_iff_lt, isMut, aFn, List.contains, List.elem, aBox, aField, aLoad, sub, aNil, aPick, aExt, aFld, gd, noJunk, plainOp, aBuildSlice, aBuild, aFill, aParts, seqParts, fitAll, List.range', ↓reduceIte, reduceCtorEq, Nat.reduceEqDiff, Nat.reduceAdd, Nat.reduceLeDiff, Nat.reduceMul, Nat.reduceLT, Nat.reduceBEq, Int.reduceEq, tf_L3_102])⟩ (fun i x s b hx hlt hlt' hdr hinv hb => ?_) (fun s b hge hinv => ?_)
  case refine_1 =>
    have hw := wrap64 (n := (i : Int) + 1) (by omega) (by omega)
    have hlen' : ((((l).take i).map (fun t => t.mapv fun v => vr (idxI v vars 0))).map Tm.av).length = i := by simp only [List.length_map, List.length_take]; omega
    have htk : ((((l).take i).map (fun t => t.mapv fun v => vr (idxI v vars 0))).map Tm.av) ++ [Tm.av ((fun t => t.mapv fun v => vr (idxI v vars 0)) x)] = (((l).take (i + 1)).map (fun t => t.mapv fun v => vr (idxI v vars 0))).map Tm.av := by rw [List.take_add_one, hx]; simp
    have hat := ev_at (av := Tm.av) eI_27 hx (Tm.av_width x)
    simp -implicitDefEqProofs only [hlt', List.length_map, hat, evb0, evb1, evb2, evb3, evb4, evb5, evb6, evb7, evb8, evb9, ↓evZ2, ↓evZ3, ↓Int.cast_ofNat_Int, implies_true, ne_eq, or_false, false_or, or_self, gt_iff_lt, isMut, aFn, List.contains, List.elem, aBox, aField, aLoad, sub, aNil, aPick, aExt, aFld, gd, noJunk, plainOp, aBuildSlice, aBuild, aFill, aParts, seqParts, fitAll, List.range', ↓reduceIte, reduceCtorEq, Nat.reduceEqDiff, Nat.reduceAdd, Nat.reduceLeDiff, Nat.reduceMul, Nat.reduceLT, Nat.reduceBEq, Int.reduceEq, tf_L3_102]
    refine (c_mapVars (fun v => vr (idxI v vars 0)) _ [.pptr (.slice (vars.map iv))] rfl x _ (hsm x (List.mem_of_getElem? hx)) (fun n _ s => c_renumbered_1 vars n s)).to ?_
    simp -implicitDefEqProofs only [List.length_map, hat, evb0, evb1, evb2, evb3, evb4, evb5, evb6, evb7, evb8, evb9, ↓evZ2, ↓evZ3, ↓Int.cast_ofNat_Int, implies_true, ne_eq, or_false, false_or, or_self, gt_iff_lt, isMut, aFn, List.contains, List.elem, aBox, aField, aLoad, sub, aNil, aPick, aExt, aFld, gd, noJunk, plainOp, aBuildSlice, aBuild, aFill, aParts, seqParts, fitAll, List.range', ↓reduceIte, reduceCtorEq, Nat.reduceEqDiff, Nat.reduceAdd, Nat.reduceLeDiff, Nat.reduceMul, Nat.reduceLT, Nat.reduceBEq, Int.reduceEq, tf_L3_102]
    refine acc_append eI_27 eB_27 eZ_27 rfl rfl (by intro e he; simp only [List.mem_cons, List.not_mem_nil, or_false] at he; subst he; exact ⟨Tm.av_width _, Tm.av_store _⟩) (by intro e he; simp only [List.mem_map] at he; obtain ⟨t, _, rfl⟩ := he; exact Tm.av_width t) hb (by simp only [hlen', List.length_cons, List.length_nil]; omega) (by simp only [hlen', List.length_cons, List.length_nil]; omega) (fun b' hb' => ?_)
    rw [htk] at hb' ⊢
    simp -implicitDefEqProofs only [List.length_map, hat, evb0, evb1, evb2, evb3, evb4, evb5, evb6, evb7, evb8, evb9, ↓evZ2, ↓evZ3, ↓Int.cast_ofNat_Int, implies_true, ne_eq, or_false, false_or, or_self, gt_iff_lt, isMut, aFn, List.contains, List.elem, aBox, aField, aLoad, sub, aNil, aPick, aExt, aFld, gd, noJunk, plainOp, aBuildSlice, aBuild, aFill, aParts, seqParts, fitAll, List.range', ↓reduceIte, reduceCtorEq, Nat.reduceEqDiff, Nat.reduceAdd, Nat.reduceLeDiff, Nat.reduceMul, Nat.reduceLT, Nat.reduceBEq, Int.reduceEq, tf_L3_102]
    exact ⟨(), b', hb', LessL.mk (by simp -implicitDefEqProofs only [hw, List.length_map, hat, evb0, evb1, evb2, evb3, evb4, evb5, evb6, evb7, evb8, evb9, ↓evZ2, ↓evZ3, ↓Int.cast_ofNat_Int, implies_true, ne_eq, or_false, false_or, or_self, gt_iff_lt, isMut, aFn, List.contains, List.elem, aBox, aField, aLoad, sub, aNil, aPick, aExt, aFld, gd, noJunk, plainOp, aBuildSlice, aBuild, aFill, aParts, seqParts, fitAll, List.range', ↓reduceIte, reduceCtorEq, Nat.reduceEqDiff, Nat.reduceAdd, Nat.reduceLeDiff, Nat.reduceMul, Nat.reduceLT, Nat.reduceBEq, Int.reduceEq, tf_L3_102])⟩
  simp -implicitDefEqProofs only [hge, fin_agg, fin_tup, fin_int, fin_bool, fin_str, fin_slice, fin_fslice, fin_pptr, fin_ptr, fin_func, fin_map, fin_undef, fin_accV, tm_fin, List.take_length, List.length_map, evb0, evb1, evb2, evb3, evb4, evb5, evb6, evb7, evb8, evb9, ↓evZ2, ↓evZ3, ↓Int.cast_ofNat_Int, implies_true, ne_eq, or_false, false_or, or_self, gt_iff_lt, isMut, aFn, List.contains, List.elem, aBox, aField, aLoad, sub, aNil, aPick, aExt, aFld, gd, noJunk, plainOp, aBuildSlice, aBuild, aFill, aParts, seqParts, fitAll, List.range', ↓reduceIte, reduceCtorEq, Nat.reduceEqDiff, Nat.reduceAdd, Nat.reduceLeDiff, Nat.reduceMul, Nat.reduceLT, Nat.reduceBEq, Int.reduceEq, tf_L3_102]
  exact ⟨rfl, Drops.refl _⟩
theorem c_renumberedF (t : Tm) (h : t.valid = true) (st : Store) : ACalls prog 102 [.fslice [t.av]] st (fun r st' => r = .slice [(renum t).av] ∧ st' = st) := by
  have := c_renumbered [t] (by simp) (by have := Tm.valid_nodes h; simp only [sumL]; omega) (by intro x hx; simp only [List.mem_cons, List.not_mem_nil, or_false] at hx; rw [hx]; exact Tm.valid_small h) st
  exact ACalls.softArgs (by simp only [softL, AV.soft]; exact this)

theorem tf_L3_48 : (type_of% tI_2) ∧ (type_of% zI_2) ∧ (type_of% Go.Proofs.Try.underlying2) ∧ (type_of% tI_3) ∧ (type_of% zI_3) ∧ (type_of% Go.Proofs.Try.underlying3) ∧ (type_of% tI_4) ∧ (type_of% zI_4) ∧ (type_of% Go.Proofs.Try.underlying4) ∧ (type_of% tI_5) ∧ (type_of% zI_5) ∧ (type_of% Go.Proofs.Try.underlying5) ∧ (type_of% tI_6) ∧ (type_of% zI_6) ∧ (type_of% Go.Proofs.Try.underlying6) ∧ (type_of% tI_8) ∧ (type_of% zI_8) ∧ (type_of% fI_8_0) ∧ (type_of% fI_8_1) ∧ (type_of% fI_8_2) ∧ (type_of% fI_8_3) ∧ (type_of% bI_8) ∧ (type_of% tI_9) ∧ (type_of% zI_9) ∧ (type_of% Go.Proofs.Try.underlying9) ∧ (type_of% tI_13) ∧ (type_of% zI_13) ∧ (type_of% fI_13_0) ∧ (type_of% fI_13_1) ∧ (type_of% bI_13) ∧ (type_of% tI_14) ∧ (type_of% zI_14) ∧ (type_of% fI_14_0) ∧ (type_of% fI_14_1) ∧ (type_of% bI_14) ∧ (type_of% tI_16) ∧ (type_of% zI_16) ∧ (type_of% tI_18) ∧ (type_of% zI_18) ∧ (type_of% fI_18_0) ∧ (type_of% bI_18) ∧ (type_of% tI_19) ∧ (type_of% zI_19) ∧ (type_of% fI_19_0) ∧ (type_of% bI_19) ∧ (type_of% tI_21) ∧ (type_of% zI_21) ∧ (type_of% Go.Proofs.Try.underlying21) ∧ (type_of% tI_22) ∧ (type_of% zI_22) ∧ (type_of% eI_22) ∧ (type_of% eB_22) ∧ (type_of% eZ_22) ∧ (type_of% Go.Proofs.Try.underlying22) ∧ (type_of% tI_24) ∧ (type_of% zI_24) ∧ (type_of% fI_24_0) ∧ (type_of% bI_24) ∧ (type_of% tI_27) ∧ (type_of% zI_27) ∧ (type_of% eI_27) ∧ (type_of% eB_27) ∧ (type_of% eZ_27) ∧ (type_of% Go.Proofs.Try.underlying27) ∧ (type_of% tI_41) ∧ (type_of% zI_41) ∧ (type_of% fI_41_0) ∧ (type_of% fI_41_1) ∧ (type_of% fI_41_2) ∧ (type_of% fI_41_3) ∧ (type_of% bI_41) ∧ (type_of% tI_64) ∧ (type_of% zI_64) ∧ (type_of% fI_64_0) ∧ (type_of% fI_64_1) ∧ (type_of% bI_64) ∧ (type_of% tI_102) ∧ (type_of% zI_102) ∧ (type_of% tI_157) ∧ (type_of% zI_157) ∧ (type_of% fI_157_0) ∧ (type_of% fI_157_1) ∧ (type_of% bI_157) := ⟨tI_2, zI_2, Go.Proofs.Try.underlying2, tI_3, zI_3, Go.Proofs.Try.underlying3, tI_4, zI_4, Go.Proofs.Try.underlying4, tI_5, zI_5, Go.Proofs.Try.underlying5, tI_6, zI_6, Go.Proofs.Try.underlying6, tI_8, zI_8, fI_8_0, fI_8_1, fI_8_2, fI_8_3, bI_8, tI_9, zI_9, Go.Proofs.Try.underlying9, tI_13, zI_13, fI_13_0, fI_13_1, bI_13, tI_14, zI_14, fI_14_0, fI_14_1, bI_14, tI_16, zI_16, tI_18, zI_18, fI_18_0, bI_18, tI_19, zI_19, fI_19_0, bI_19, tI_21, zI_21, Go.Proofs.Try.underlying21, tI_22, zI_22, eI_22, eB_22, eZ_22, Go.Proofs.Try.underlying22, tI_24, zI_24, fI_24_0, bI_24, tI_27, zI_27, eI_27, eB_27, eZ_27, Go.Proofs.Try.underlying27, tI_41, zI_41, fI_41_0, fI_41_1, fI_41_2, fI_41_3, bI_41, tI_64, zI_64, fI_64_0, fI_64_1, bI_64, tI_102, zI_102, tI_157, zI_157, fI_157_0, fI_157_1, bI_157⟩
theorem c_impl_VariantTerms (a b : Tm) (ha : a.valid = true) (hb : b.valid = true) (st : Store) : ACalls prog 48 [a.av, b.av] st (fun r st' => r = .bool ((renum a).same (renum b)) ∧ st' = st) := by
  refine acalls_fit [1000000] func48 ntmps48 rfl rfl (by kernel_rfl) (by decide +kernel) (by show 2 ≤ _; decide +kernel) ?_
  intro _
  simp -implicitDefEqProofs only [Tm.av_agg, Tm.av_width, Tm.av_store, Tm.av_junk, Tm.av_cells, Nat.le_refl, take_all (Tm.av_cells _), agg_cells (Tm.av_agg _), evb0, evb1, evb2, evb3, evb4, evb5, evb6, evb7, evb8, evb9, ↓evZ2, ↓evZ3, ↓Int.cast_ofNat_Int, implies_true, ne_eq, or_false, false_or, or_self, gt_iff_lt, isMut, aFn, List.contains, List.elem, aBox, aField, aLoad, sub, aNil, aPick, aExt, aFld, gd, noJunk, plainOp, aBuildSlice, aBuild, aFill, aParts, seqParts, fitAll, List.range', ↓reduceIte, reduceCtorEq, Nat.reduceEqDiff, Nat.reduceAdd, Nat.reduceLeDiff, Nat.reduceMul, Nat.reduceLT, Nat.reduceBEq, Int.reduceEq, tf_L3_48]
  have hva := fun s => c_impl_TermValid a s
  have hvb := fun s => c_impl_TermValid b s
  rw [ha] at hva
  rw [hb] at hvb
  have hat : ∀ t : Tm, aIndexAddr prog 27 (.slice [t.av]) (.int .i64 0) = some (.pptr t.av) := fun t => ev_at (P := prog) (av := Tm.av) (l := [t]) (i := 0) eI_27 rfl (Tm.av_width t)
  refine arun_planX [(0, 1), (1, 0), (2, 1), (3, 1), (4, 0), (5, 1), (6, 1), (7, 1), (8, 1), (12, 1), (13, 1), (9, 0), (10, 1), (11, 1), (14, 0), (15, 1), (16, 1), (17, 0), (18, 1), (19, 1)] [0, 2, 3, 5, 6, 7, 8, 12, 13, 10, 11, 15, 16, 18, 19] none0' mixed (by decide +kernel) (by decide +kernel) (by decide +kernel) rfl ext_none ?_
  simp -implicitDefEqProofs only [Tm.av_agg, Tm.av_width, Tm.av_store, Tm.av_junk, Tm.av_cells, Nat.le_refl, take_all (Tm.av_cells _), agg_cells (Tm.av_agg _), evb0, evb1, evb2, evb3, evb4, evb5, evb6, evb7, evb8, evb9, ↓evZ2, ↓evZ3, ↓Int.cast_ofNat_Int, implies_true, ne_eq, or_false, false_or, or_self, gt_iff_lt, isMut, aFn, List.contains, List.elem, aBox, aField, aLoad, sub, aNil, aPick, aExt, aFld, gd, noJunk, plainOp, aBuildSlice, aBuild, aFill, aParts, seqParts, fitAll, List.range', ↓reduceIte, reduceCtorEq, Nat.reduceEqDiff, Nat.reduceAdd, Nat.reduceLeDiff, Nat.reduceMul, Nat.reduceLT, Nat.reduceBEq, Int.reduceEq, tf_L3_48]
  refine (hva _).to ?_
  simp -implicitDefEqProofs only [Tm.av_agg, Tm.av_width, Tm.av_store, Tm.av_junk, Tm.av_cells, Nat.le_refl, take_all (Tm.av_cells _), agg_cells (Tm.av_agg _), evb0, evb1, evb2, evb3, evb4, evb5, evb6, evb7, evb8, evb9, ↓evZ2, ↓evZ3, ↓Int.cast_ofNat_Int, implies_true, ne_eq, or_false, false_or, or_self, gt_iff_lt, isMut, aFn, List.contains, List.elem, aBox, aField, aLoad, sub, aNil, aPick, aExt, aFld, gd, noJunk, plainOp, aBuildSlice, aBuild, aFill, aParts, seqParts, fitAll, List.range', ↓reduceIte, reduceCtorEq, Nat.reduceEqDiff, Nat.reduceAdd, Nat.reduceLeDiff, Nat.reduceMul, Nat.reduceLT, Nat.reduceBEq, Int.reduceEq, tf_L3_48]
  refine ⟨ext_none, ?_⟩
  refine (hvb _).to ?_
  simp -implicitDefEqProofs only [Tm.av_agg, Tm.av_width, Tm.av_store, Tm.av_junk, Tm.av_cells, Nat.le_refl, take_all (Tm.av_cells _), agg_cells (Tm.av_agg _), evb0, evb1, evb2, evb3, evb4, evb5, evb6, evb7, evb8, evb9, ↓evZ2, ↓evZ3, ↓Int.cast_ofNat_Int, implies_true, ne_eq, or_false, false_or, or_self, gt_iff_lt, isMut, aFn, List.contains, List.elem, aBox, aField, aLoad, sub, aNil, aPick, aExt, aFld, gd, noJunk, plainOp, aBuildSlice, aBuild, aFill, aParts, seqParts, fitAll, List.range', ↓reduceIte, reduceCtorEq, Nat.reduceEqDiff, Nat.reduceAdd, Nat.reduceLeDiff, Nat.reduceMul, Nat.reduceLT, Nat.reduceBEq, Int.reduceEq, tf_L3_48]
  refine ⟨ext_none, ?_⟩
  refine (c_renumberedF a ha _).to ?_
  simp -implicitDefEqProofs only [hat, Tm.av_agg, Tm.av_width, Tm.av_store, Tm.av_junk, Tm.av_cells, Nat.le_refl, take_all (Tm.av_cells _), agg_cells (Tm.av_agg _), evb0, evb1, evb2, evb3, evb4, evb5, evb6, evb7, evb8, evb9, ↓evZ2, ↓evZ3, ↓Int.cast_ofNat_Int, implies_true, ne_eq, or_false, false_or, or_self, gt_iff_lt, isMut, aFn, List.contains, List.elem, aBox, aField, aLoad, sub, aNil, aPick, aExt, aFld, gd, noJunk, plainOp, aBuildSlice, aBuild, aFill, aParts, seqParts, fitAll, List.range', ↓reduceIte, reduceCtorEq, Nat.reduceEqDiff, Nat.reduceAdd, Nat.reduceLeDiff, Nat.reduceMul, Nat.reduceLT, Nat.reduceBEq, Int.reduceEq, tf_L3_48]
  refine ⟨ext_none, ?_⟩
  refine (c_renumberedF b hb _).to ?_
  simp -implicitDefEqProofs only [hat, Tm.av_agg, Tm.av_width, Tm.av_store, Tm.av_junk, Tm.av_cells, Nat.le_refl, take_all (Tm.av_cells _), agg_cells (Tm.av_agg _), evb0, evb1, evb2, evb3, evb4, evb5, evb6, evb7, evb8, evb9, ↓evZ2, ↓evZ3, ↓Int.cast_ofNat_Int, implies_true, ne_eq, or_false, false_or, or_self, gt_iff_lt, isMut, aFn, List.contains, List.elem, aBox, aField, aLoad, sub, aNil, aPick, aExt, aFld, gd, noJunk, plainOp, aBuildSlice, aBuild, aFill, aParts, seqParts, fitAll, List.range', ↓reduceIte, reduceCtorEq, Nat.reduceEqDiff, Nat.reduceAdd, Nat.reduceLeDiff, Nat.reduceMul, Nat.reduceLT, Nat.reduceBEq, Int.reduceEq, tf_L3_48]
  refine ⟨ext_none, ?_⟩
  refine (c_impl_TermSame _ _ _).to ?_
  simp -implicitDefEqProofs only [Tm.av_agg, Tm.av_width, Tm.av_store, Tm.av_junk, Tm.av_cells, Nat.le_refl, take_all (Tm.av_cells _), agg_cells (Tm.av_agg _), evb0, evb1, evb2, evb3, evb4, evb5, evb6, evb7, evb8, evb9, ↓evZ2, ↓evZ3, ↓Int.cast_ofNat_Int, implies_true, ne_eq, or_false, false_or, or_self, gt_iff_lt, isMut, aFn, List.contains, List.elem, aBox, aField, aLoad, sub, aNil, aPick, aExt, aFld, gd, noJunk, plainOp, aBuildSlice, aBuild, aFill, aParts, seqParts, fitAll, List.range', ↓reduceIte, reduceCtorEq, Nat.reduceEqDiff, Nat.reduceAdd, Nat.reduceLeDiff, Nat.reduceMul, Nat.reduceLT, Nat.reduceBEq, Int.reduceEq, tf_L3_48]
  exact ext_none

theorem uniB_swap_none {a b : Tm} (h : uniB a b = none) : uniB b a = none := by
  cases h2 : uniB b a with
  | none => rfl
  | some bs =>
    obtain ⟨bs', h3, _⟩ := uniB_swap h2
    rw [h] at h3; cases h3
theorem uniB_fine {a b : Tm} {bs : List Bd} (h : uniB a b = some bs) : Fine a b bs := by obtain ⟨_, _, _, _, h⟩ := uniB_some h; exact h
theorem appB_eq {a : Tm} {bs : List Bd} (ha : a.valid = true) (hb : (bs.all fun x => x.2.valid) = true) : appB a bs = if (a.mapv (subB bs)).valid = true then some (a.mapv (subB bs)) else none := by
  unfold appB
  simp only [ha, hb, true_and]

theorem tf_L3_8 : (type_of% tI_2) ∧ (type_of% zI_2) ∧ (type_of% Go.Proofs.Try.underlying2) ∧ (type_of% tI_3) ∧ (type_of% zI_3) ∧ (type_of% Go.Proofs.Try.underlying3) ∧ (type_of% tI_4) ∧ (type_of% zI_4) ∧ (type_of% Go.Proofs.Try.underlying4) ∧ (type_of% tI_5) ∧ (type_of% zI_5) ∧ (type_of% Go.Proofs.Try.underlying5) ∧ (type_of% tI_6) ∧ (type_of% zI_6) ∧ (type_of% Go.Proofs.Try.underlying6) ∧ (type_of% tI_7) ∧ (type_of% zI_7) ∧ (type_of% fI_7_0) ∧ (type_of% fI_7_1) ∧ (type_of% fI_7_2) ∧ (type_of% fI_7_3) ∧ (type_of% bI_7) ∧ (type_of% tI_8) ∧ (type_of% zI_8) ∧ (type_of% fI_8_0) ∧ (type_of% fI_8_1) ∧ (type_of% fI_8_2) ∧ (type_of% fI_8_3) ∧ (type_of% bI_8) ∧ (type_of% tI_9) ∧ (type_of% zI_9) ∧ (type_of% Go.Proofs.Try.underlying9) ∧ (type_of% tI_10) ∧ (type_of% zI_10) ∧ (type_of% Go.Proofs.Try.underlying10) ∧ (type_of% tI_11) ∧ (type_of% zI_11) ∧ (type_of% Go.Proofs.Try.underlying11) ∧ (type_of% tI_13) ∧ (type_of% zI_13) ∧ (type_of% fI_13_0) ∧ (type_of% fI_13_1) ∧ (type_of% bI_13) ∧ (type_of% tI_15) ∧ (type_of% zI_15) ∧ (type_of% tI_16) ∧ (type_of% zI_16) ∧ (type_of% tI_19) ∧ (type_of% zI_19) ∧ (type_of% fI_19_0) ∧ (type_of% bI_19) ∧ (type_of% tI_22) ∧ (type_of% zI_22) ∧ (type_of% eI_22) ∧ (type_of% eB_22) ∧ (type_of% eZ_22) ∧ (type_of% Go.Proofs.Try.underlying22) ∧ (type_of% tI_23) ∧ (type_of% zI_23) ∧ (type_of% fI_23_0) ∧ (type_of% bI_23) ∧ (type_of% tI_24) ∧ (type_of% zI_24) ∧ (type_of% fI_24_0) ∧ (type_of% bI_24) ∧ (type_of% tI_31) ∧ (type_of% zI_31) ∧ (type_of% fI_31_0) ∧ (type_of% bI_31) ∧ (type_of% tI_32) ∧ (type_of% zI_32) ∧ (type_of% fI_32_0) ∧ (type_of% bI_32) ∧ (type_of% tI_39) ∧ (type_of% zI_39) ∧ (type_of% eI_39) ∧ (type_of% eB_39) ∧ (type_of% eZ_39) ∧ (type_of% Go.Proofs.Try.underlying39) ∧ (type_of% tI_41) ∧ (type_of% zI_41) ∧ (type_of% fI_41_0) ∧ (type_of% fI_41_1) ∧ (type_of% fI_41_2) ∧ (type_of% fI_41_3) ∧ (type_of% bI_41) ∧ (type_of% tI_44) ∧ (type_of% zI_44) ∧ (type_of% eI_44) ∧ (type_of% eB_44) ∧ (type_of% eZ_44) ∧ (type_of% Go.Proofs.Try.underlying44) ∧ (type_of% tI_62) ∧ (type_of% zI_62) ∧ (type_of% eI_62) ∧ (type_of% eB_62) ∧ (type_of% eZ_62) ∧ (type_of% Go.Proofs.Try.underlying62) ∧ (type_of% tI_63) ∧ (type_of% zI_63) ∧ (type_of% fI_63_0) ∧ (type_of% fI_63_1) ∧ (type_of% bI_63) ∧ (type_of% tI_64) ∧ (type_of% zI_64) ∧ (type_of% fI_64_0) ∧ (type_of% fI_64_1) ∧ (type_of% bI_64) ∧ (type_of% tI_73) ∧ (type_of% zI_73) ∧ (type_of% eI_73) ∧ (type_of% eB_73) ∧ (type_of% eZ_73) ∧ (type_of% Go.Proofs.Try.underlying73) ∧ (type_of% tI_74) ∧ (type_of% zI_74) ∧ (type_of% fI_74_0) ∧ (type_of% fI_74_1) ∧ (type_of% fI_74_2) ∧ (type_of% fI_74_3) ∧ (type_of% fI_74_4) ∧ (type_of% fI_74_5) ∧ (type_of% bI_74) ∧ (type_of% tI_91) ∧ (type_of% zI_91) ∧ (type_of% fI_91_0) ∧ (type_of% fI_91_1) ∧ (type_of% fI_91_2) ∧ (type_of% fI_91_3) ∧ (type_of% bI_91) ∧ (type_of% tI_92) ∧ (type_of% zI_92) ∧ (type_of% fI_92_0) ∧ (type_of% fI_92_1) ∧ (type_of% fI_92_2) ∧ (type_of% fI_92_3) ∧ (type_of% bI_92) := ⟨tI_2, zI_2, Go.Proofs.Try.underlying2, tI_3, zI_3, Go.Proofs.Try.underlying3, tI_4, zI_4, Go.Proofs.Try.underlying4, tI_5, zI_5, Go.Proofs.Try.underlying5, tI_6, zI_6, Go.Proofs.Try.underlying6, tI_7, zI_7, fI_7_0, fI_7_1, fI_7_2, fI_7_3, bI_7, tI_8, zI_8, fI_8_0, fI_8_1, fI_8_2, fI_8_3, bI_8, tI_9, zI_9, Go.Proofs.Try.underlying9, tI_10, zI_10, Go.Proofs.Try.underlying10, tI_11, zI_11, Go.Proofs.Try.underlying11, tI_13, zI_13, fI_13_0, fI_13_1, bI_13, tI_15, zI_15, tI_16, zI_16, tI_19, zI_19, fI_19_0, bI_19, tI_22, zI_22, eI_22, eB_22, eZ_22, Go.Proofs.Try.underlying22, tI_23, zI_23, fI_23_0, bI_23, tI_24, zI_24, fI_24_0, bI_24, tI_31, zI_31, fI_31_0, bI_31, tI_32, zI_32, fI_32_0, bI_32, tI_39, zI_39, eI_39, eB_39, eZ_39, Go.Proofs.Try.underlying39, tI_41, zI_41, fI_41_0, fI_41_1, fI_41_2, fI_41_3, bI_41, tI_44, zI_44, eI_44, eB_44, eZ_44, Go.Proofs.Try.underlying44, tI_62, zI_62, eI_62, eB_62, eZ_62, Go.Proofs.Try.underlying62, tI_63, zI_63, fI_63_0, fI_63_1, bI_63, tI_64, zI_64, fI_64_0, fI_64_1, bI_64, tI_73, zI_73, eI_73, eB_73, eZ_73, Go.Proofs.Try.underlying73, tI_74, zI_74, fI_74_0, fI_74_1, fI_74_2, fI_74_3, fI_74_4, fI_74_5, bI_74, tI_91, zI_91, fI_91_0, fI_91_1, fI_91_2, fI_91_3, bI_91, tI_92, zI_92, fI_92_0, fI_92_1, fI_92_2, fI_92_3, bI_92⟩
theorem c_FnUnifySwap (code : List Bt) (st : Store) : ACalls prog 8 [.slice (code.map byteAv)] st (fun r _ => r = .bool true) := by
  refine acalls_fit [1000000] func8 ntmps8 rfl rfl (by kernel_rfl) (by decide +kernel) (by show 1 ≤ _; decide +kernel) ?_
  intro _
  simp -implicitDefEqProofs only [List.length_map, setCells, evb0, evb1, evb2, evb3, evb4, evb5, evb6, evb7, evb8, evb9, ↓evZ2, ↓evZ3, ↓Int.cast_ofNat_Int, implies_true, ne_eq, or_false, false_or, or_self, gt_iff_lt, isMut, aFn, List.contains, List.elem, aBox, aField, aLoad, sub, aNil, aPick, aExt, aFld, gd, noJunk, plainOp, aBuildSlice, aBuild, aFill, aParts, seqParts, fitAll, List.range', ↓reduceIte, reduceCtorEq, Nat.reduceEqDiff, Nat.reduceAdd, Nat.reduceLeDiff, Nat.reduceMul, Nat.reduceLT, Nat.reduceBEq, Int.reduceEq, tf_L3_8]
  refine cond_split (fun h0 => ?_) (fun h0 => ?_)
  · simp -implicitDefEqProofs only [List.length_map, setCells, evb0, evb1, evb2, evb3, evb4, evb5, evb6, evb7, evb8, evb9, ↓evZ2, ↓evZ3, ↓Int.cast_ofNat_Int, implies_true, ne_eq, or_false, false_or, or_self, gt_iff_lt, isMut, aFn, List.contains, List.elem, aBox, aField, aLoad, sub, aNil, aPick, aExt, aFld, gd, noJunk, plainOp, aBuildSlice, aBuild, aFill, aParts, seqParts, fitAll, List.range', ↓reduceIte, reduceCtorEq, Nat.reduceEqDiff, Nat.reduceAdd, Nat.reduceLeDiff, Nat.reduceMul, Nat.reduceLT, Nat.reduceBEq, Int.reduceEq, tf_L3_8]
  simp -implicitDefEqProofs only [List.length_map, setCells, evb0, evb1, evb2, evb3, evb4, evb5, evb6, evb7, evb8, evb9, ↓evZ2, ↓evZ3, ↓Int.cast_ofNat_Int, implies_true, ne_eq, or_false, false_or, or_self, gt_iff_lt, isMut, aFn, List.contains, List.elem, aBox, aField, aLoad, sub, aNil, aPick, aExt, aFld, gd, noJunk, plainOp, aBuildSlice, aBuild, aFill, aParts, seqParts, fitAll, List.range', ↓reduceIte, reduceCtorEq, Nat.reduceEqDiff, Nat.reduceAdd, Nat.reduceLeDiff, Nat.reduceMul, Nat.reduceLT, Nat.reduceBEq, Int.reduceEq, tf_L3_8]
  refine (c_DrawUnifyTerms code _).mono ?_
  rintro _ s1 ⟨⟨a, b, rfl⟩, rfl⟩
  simp -implicitDefEqProofs only [take_all (Tm.av_cells a), agg_cells (Tm.av_agg a), take_all (Tm.av_cells b), agg_cells (Tm.av_agg b), Tm.av_agg, Tm.av_width, Tm.av_store, Tm.av_junk, Tm.av_cells, Nat.le_refl, setCells, evb0, evb1, evb2, evb3, evb4, evb5, evb6, evb7, evb8, evb9, ↓evZ2, ↓evZ3, ↓Int.cast_ofNat_Int, implies_true, ne_eq, or_false, false_or, or_self, gt_iff_lt, isMut, aFn, List.contains, List.elem, aBox, aField, aLoad, sub, aNil, aPick, aExt, aFld, gd, noJunk, plainOp, aBuildSlice, aBuild, aFill, aParts, seqParts, fitAll, List.range', ↓reduceIte, reduceCtorEq, Nat.reduceEqDiff, Nat.reduceAdd, Nat.reduceLeDiff, Nat.reduceMul, Nat.reduceLT, Nat.reduceBEq, Int.reduceEq, tf_L3_8]
  intro b3 h3 b4 h4
  have h43 : b4 ≠ b3 := by rintro rfl; rw [Store.upd_same] at h4; cases h4
  have hn4 : s1 b4 = none := by rw [Store.upd_ne _ _ h43] at h4; exact h4
  simp -implicitDefEqProofs only [Tm.av_agg, Tm.av_width, Tm.av_store, Tm.av_junk, Tm.av_cells, Nat.le_refl, setCells, h43, h43.symm, zero_cells, take_all (Tm.av_cells a), agg_cells (Tm.av_agg a), take_all (Tm.av_cells b), agg_cells (Tm.av_agg b), evb0, evb1, evb2, evb3, evb4, evb5, evb6, evb7, evb8, evb9, ↓evZ2, ↓evZ3, ↓Int.cast_ofNat_Int, implies_true, ne_eq, or_false, false_or, or_self, gt_iff_lt, isMut, aFn, List.contains, List.elem, aBox, aField, aLoad, sub, aNil, aPick, aExt, aFld, gd, noJunk, plainOp, aBuildSlice, aBuild, aFill, aParts, seqParts, fitAll, List.range', ↓reduceIte, reduceCtorEq, Nat.reduceEqDiff, Nat.reduceAdd, Nat.reduceLeDiff, Nat.reduceMul, Nat.reduceLT, Nat.reduceBEq, Int.reduceEq, tf_L3_8]
  have hci := fun s => c_impl_UnifyTerms a b s
  have hcs := fun s => c_spec_UnifyTerms a b s
  have hcr := fun s => c_impl_UnifyTerms b a s
  cases hu : uniB a b with
  | none =>
    rw [hu, uniAv_none] at hci hcs
    rw [uniB_swap_none hu, uniAv_none] at hcr
    refine (hci _).to ?_
    simp -implicitDefEqProofs only [Tm.av_agg, Tm.av_width, Tm.av_store, Tm.av_junk, Tm.av_cells, Nat.le_refl, setCells, h43, h43.symm, zero_cells, take_all (Tm.av_cells a), agg_cells (Tm.av_agg a), take_all (Tm.av_cells b), agg_cells (Tm.av_agg b), evb0, evb1, evb2, evb3, evb4, evb5, evb6, evb7, evb8, evb9, ↓evZ2, ↓evZ3, ↓Int.cast_ofNat_Int, implies_true, ne_eq, or_false, false_or, or_self, gt_iff_lt, isMut, aFn, List.contains, List.elem, aBox, aField, aLoad, sub, aNil, aPick, aExt, aFld, gd, noJunk, plainOp, aBuildSlice, aBuild, aFill, aParts, seqParts, fitAll, List.range', ↓reduceIte, reduceCtorEq, Nat.reduceEqDiff, Nat.reduceAdd, Nat.reduceLeDiff, Nat.reduceMul, Nat.reduceLT, Nat.reduceBEq, Int.reduceEq, tf_L3_8]
    refine (hcs _).to ?_
    simp -implicitDefEqProofs only [Tm.av_agg, Tm.av_width, Tm.av_store, Tm.av_junk, Tm.av_cells, Nat.le_refl, setCells, h43, h43.symm, zero_cells, take_all (Tm.av_cells a), agg_cells (Tm.av_agg a), take_all (Tm.av_cells b), agg_cells (Tm.av_agg b), evb0, evb1, evb2, evb3, evb4, evb5, evb6, evb7, evb8, evb9, ↓evZ2, ↓evZ3, ↓Int.cast_ofNat_Int, implies_true, ne_eq, or_false, false_or, or_self, gt_iff_lt, isMut, aFn, List.contains, List.elem, aBox, aField, aLoad, sub, aNil, aPick, aExt, aFld, gd, noJunk, plainOp, aBuildSlice, aBuild, aFill, aParts, seqParts, fitAll, List.range', ↓reduceIte, reduceCtorEq, Nat.reduceEqDiff, Nat.reduceAdd, Nat.reduceLeDiff, Nat.reduceMul, Nat.reduceLT, Nat.reduceBEq, Int.reduceEq, tf_L3_8]
    refine (hcr _).to ?_
    simp -implicitDefEqProofs only [beq_self_eq_true, Tm.av_agg, Tm.av_width, Tm.av_store, Tm.av_junk, Tm.av_cells, Nat.le_refl, setCells, h43, h43.symm, zero_cells, take_all (Tm.av_cells a), agg_cells (Tm.av_agg a), take_all (Tm.av_cells b), agg_cells (Tm.av_agg b), evb0, evb1, evb2, evb3, evb4, evb5, evb6, evb7, evb8, evb9, ↓evZ2, ↓evZ3, ↓Int.cast_ofNat_Int, implies_true, ne_eq, or_false, false_or, or_self, gt_iff_lt, isMut, aFn, List.contains, List.elem, aBox, aField, aLoad, sub, aNil, aPick, aExt, aFld, gd, noJunk, plainOp, aBuildSlice, aBuild, aFill, aParts, seqParts, fitAll, List.range', ↓reduceIte, reduceCtorEq, Nat.reduceEqDiff, Nat.reduceAdd, Nat.reduceLeDiff, Nat.reduceMul, Nat.reduceLT, Nat.reduceBEq, Int.reduceEq, tf_L3_8]
    refine (c_pgBinds [] _).to ?_
    simp -implicitDefEqProofs only [beq_self_eq_true, Tm.av_agg, Tm.av_width, Tm.av_store, Tm.av_junk, Tm.av_cells, Nat.le_refl, setCells, h43, h43.symm, zero_cells, take_all (Tm.av_cells a), agg_cells (Tm.av_agg a), take_all (Tm.av_cells b), agg_cells (Tm.av_agg b), evb0, evb1, evb2, evb3, evb4, evb5, evb6, evb7, evb8, evb9, ↓evZ2, ↓evZ3, ↓Int.cast_ofNat_Int, implies_true, ne_eq, or_false, false_or, or_self, gt_iff_lt, isMut, aFn, List.contains, List.elem, aBox, aField, aLoad, sub, aNil, aPick, aExt, aFld, gd, noJunk, plainOp, aBuildSlice, aBuild, aFill, aParts, seqParts, fitAll, List.range', ↓reduceIte, reduceCtorEq, Nat.reduceEqDiff, Nat.reduceAdd, Nat.reduceLeDiff, Nat.reduceMul, Nat.reduceLT, Nat.reduceBEq, Int.reduceEq, tf_L3_8]
    refine (c_pgBinds [] _).to ?_
    simp -implicitDefEqProofs only [beq_self_eq_true, Tm.av_agg, Tm.av_width, Tm.av_store, Tm.av_junk, Tm.av_cells, Nat.le_refl, setCells, h43, h43.symm, zero_cells, take_all (Tm.av_cells a), agg_cells (Tm.av_agg a), take_all (Tm.av_cells b), agg_cells (Tm.av_agg b), evb0, evb1, evb2, evb3, evb4, evb5, evb6, evb7, evb8, evb9, ↓evZ2, ↓evZ3, ↓Int.cast_ofNat_Int, implies_true, ne_eq, or_false, false_or, or_self, gt_iff_lt, isMut, aFn, List.contains, List.elem, aBox, aField, aLoad, sub, aNil, aPick, aExt, aFld, gd, noJunk, plainOp, aBuildSlice, aBuild, aFill, aParts, seqParts, fitAll, List.range', ↓reduceIte, reduceCtorEq, Nat.reduceEqDiff, Nat.reduceAdd, Nat.reduceLeDiff, Nat.reduceMul, Nat.reduceLT, Nat.reduceBEq, Int.reduceEq, tf_L3_8]
  | some bs =>
    have hF := uniB_fine hu
    obtain ⟨bs', hu', hv, hr⟩ := uniB_swap hu
    have hF' := uniB_fine hu'
    rw [hu, uniAv_some] at hci hcs
    rw [hu', uniAv_some] at hcr
    refine (hci _).to ?_
    simp -implicitDefEqProofs only [Tm.av_agg, Tm.av_width, Tm.av_store, Tm.av_junk, Tm.av_cells, Nat.le_refl, setCells, h43, h43.symm, zero_cells, take_all (Tm.av_cells a), agg_cells (Tm.av_agg a), take_all (Tm.av_cells b), agg_cells (Tm.av_agg b), evb0, evb1, evb2, evb3, evb4, evb5, evb6, evb7, evb8, evb9, ↓evZ2, ↓evZ3, ↓Int.cast_ofNat_Int, implies_true, ne_eq, or_false, false_or, or_self, gt_iff_lt, isMut, aFn, List.contains, List.elem, aBox, aField, aLoad, sub, aNil, aPick, aExt, aFld, gd, noJunk, plainOp, aBuildSlice, aBuild, aFill, aParts, seqParts, fitAll, List.range', ↓reduceIte, reduceCtorEq, Nat.reduceEqDiff, Nat.reduceAdd, Nat.reduceLeDiff, Nat.reduceMul, Nat.reduceLT, Nat.reduceBEq, Int.reduceEq, tf_L3_8]
    refine (hcs _).to ?_
    simp -implicitDefEqProofs only [Tm.av_agg, Tm.av_width, Tm.av_store, Tm.av_junk, Tm.av_cells, Nat.le_refl, setCells, h43, h43.symm, zero_cells, take_all (Tm.av_cells a), agg_cells (Tm.av_agg a), take_all (Tm.av_cells b), agg_cells (Tm.av_agg b), evb0, evb1, evb2, evb3, evb4, evb5, evb6, evb7, evb8, evb9, ↓evZ2, ↓evZ3, ↓Int.cast_ofNat_Int, implies_true, ne_eq, or_false, false_or, or_self, gt_iff_lt, isMut, aFn, List.contains, List.elem, aBox, aField, aLoad, sub, aNil, aPick, aExt, aFld, gd, noJunk, plainOp, aBuildSlice, aBuild, aFill, aParts, seqParts, fitAll, List.range', ↓reduceIte, reduceCtorEq, Nat.reduceEqDiff, Nat.reduceAdd, Nat.reduceLeDiff, Nat.reduceMul, Nat.reduceLT, Nat.reduceBEq, Int.reduceEq, tf_L3_8]
    refine (hcr _).to ?_
    simp -implicitDefEqProofs only [beq_self_eq_true, Tm.av_agg, Tm.av_width, Tm.av_store, Tm.av_junk, Tm.av_cells, Nat.le_refl, setCells, h43, h43.symm, zero_cells, take_all (Tm.av_cells a), agg_cells (Tm.av_agg a), take_all (Tm.av_cells b), agg_cells (Tm.av_agg b), evb0, evb1, evb2, evb3, evb4, evb5, evb6, evb7, evb8, evb9, ↓evZ2, ↓evZ3, ↓Int.cast_ofNat_Int, implies_true, ne_eq, or_false, false_or, or_self, gt_iff_lt, isMut, aFn, List.contains, List.elem, aBox, aField, aLoad, sub, aNil, aPick, aExt, aFld, gd, noJunk, plainOp, aBuildSlice, aBuild, aFill, aParts, seqParts, fitAll, List.range', ↓reduceIte, reduceCtorEq, Nat.reduceEqDiff, Nat.reduceAdd, Nat.reduceLeDiff, Nat.reduceMul, Nat.reduceLT, Nat.reduceBEq, Int.reduceEq, tf_L3_8]
    refine (c_pgBinds bs _).to ?_
    simp -implicitDefEqProofs only [beq_self_eq_true, Tm.av_agg, Tm.av_width, Tm.av_store, Tm.av_junk, Tm.av_cells, Nat.le_refl, setCells, h43, h43.symm, zero_cells, take_all (Tm.av_cells a), agg_cells (Tm.av_agg a), take_all (Tm.av_cells b), agg_cells (Tm.av_agg b), evb0, evb1, evb2, evb3, evb4, evb5, evb6, evb7, evb8, evb9, ↓evZ2, ↓evZ3, ↓Int.cast_ofNat_Int, implies_true, ne_eq, or_false, false_or, or_self, gt_iff_lt, isMut, aFn, List.contains, List.elem, aBox, aField, aLoad, sub, aNil, aPick, aExt, aFld, gd, noJunk, plainOp, aBuildSlice, aBuild, aFill, aParts, seqParts, fitAll, List.range', ↓reduceIte, reduceCtorEq, Nat.reduceEqDiff, Nat.reduceAdd, Nat.reduceLeDiff, Nat.reduceMul, Nat.reduceLT, Nat.reduceBEq, Int.reduceEq, tf_L3_8]
    have hca := fun s => c_impl_ApplyBinds a bs s
    have hcb := fun s => c_impl_ApplyBinds a bs' s
    rw [appB_eq hF.va hF.vs] at hca
    rw [appB_eq hF.va hF'.vs, ← hv] at hcb
    cases hx : (a.mapv (subB bs)).valid with
    | false =>
      rw [hx] at hca hcb
      simp only [Bool.false_eq_true, if_false, optAv] at hca hcb
      refine (hca _).to ?_
      simp -implicitDefEqProofs only [Tm.av_agg, Tm.av_width, Tm.av_store, Tm.av_junk, Tm.av_cells, Nat.le_refl, setCells, h43, h43.symm, zero_cells, take_all (Tm.av_cells a), agg_cells (Tm.av_agg a), take_all (Tm.av_cells b), agg_cells (Tm.av_agg b), evb0, evb1, evb2, evb3, evb4, evb5, evb6, evb7, evb8, evb9, ↓evZ2, ↓evZ3, ↓Int.cast_ofNat_Int, implies_true, ne_eq, or_false, false_or, or_self, gt_iff_lt, isMut, aFn, List.contains, List.elem, aBox, aField, aLoad, sub, aNil, aPick, aExt, aFld, gd, noJunk, plainOp, aBuildSlice, aBuild, aFill, aParts, seqParts, fitAll, List.range', ↓reduceIte, reduceCtorEq, Nat.reduceEqDiff, Nat.reduceAdd, Nat.reduceLeDiff, Nat.reduceMul, Nat.reduceLT, Nat.reduceBEq, Int.reduceEq, tf_L3_8]
      refine (hcb _).to ?_
      simp -implicitDefEqProofs only [beq_self_eq_true, Tm.av_agg, Tm.av_width, Tm.av_store, Tm.av_junk, Tm.av_cells, Nat.le_refl, setCells, h43, h43.symm, zero_cells, take_all (Tm.av_cells a), agg_cells (Tm.av_agg a), take_all (Tm.av_cells b), agg_cells (Tm.av_agg b), evb0, evb1, evb2, evb3, evb4, evb5, evb6, evb7, evb8, evb9, ↓evZ2, ↓evZ3, ↓Int.cast_ofNat_Int, implies_true, ne_eq, or_false, false_or, or_self, gt_iff_lt, isMut, aFn, List.contains, List.elem, aBox, aField, aLoad, sub, aNil, aPick, aExt, aFld, gd, noJunk, plainOp, aBuildSlice, aBuild, aFill, aParts, seqParts, fitAll, List.range', ↓reduceIte, reduceCtorEq, Nat.reduceEqDiff, Nat.reduceAdd, Nat.reduceLeDiff, Nat.reduceMul, Nat.reduceLT, Nat.reduceBEq, Int.reduceEq, tf_L3_8]
    | true =>
      have hy : (a.mapv (subB bs')).valid = true := by rw [← hv]; exact hx
      rw [hx] at hca hcb
      simp only [if_true, optAv] at hca hcb
      generalize a.mapv (subB bs) = x at *
      generalize a.mapv (subB bs') = y at *
      refine (hca _).to ?_
      simp -implicitDefEqProofs only [Tm.av_agg, Tm.av_width, Tm.av_store, Tm.av_junk, Tm.av_cells, Nat.le_refl, setCells, h43, h43.symm, zero_cells, take_all (Tm.av_cells a), agg_cells (Tm.av_agg a), take_all (Tm.av_cells b), agg_cells (Tm.av_agg b), evb0, evb1, evb2, evb3, evb4, evb5, evb6, evb7, evb8, evb9, ↓evZ2, ↓evZ3, ↓Int.cast_ofNat_Int, implies_true, ne_eq, or_false, false_or, or_self, gt_iff_lt, isMut, aFn, List.contains, List.elem, aBox, aField, aLoad, sub, aNil, aPick, aExt, aFld, gd, noJunk, plainOp, aBuildSlice, aBuild, aFill, aParts, seqParts, fitAll, List.range', ↓reduceIte, reduceCtorEq, Nat.reduceEqDiff, Nat.reduceAdd, Nat.reduceLeDiff, Nat.reduceMul, Nat.reduceLT, Nat.reduceBEq, Int.reduceEq, tf_L3_8]
      refine (hcb _).to ?_
      simp -implicitDefEqProofs only [beq_self_eq_true, Tm.av_agg, Tm.av_width, Tm.av_store, Tm.av_junk, Tm.av_cells, Nat.le_refl, setCells, h43, h43.symm, zero_cells, take_all (Tm.av_cells a), agg_cells (Tm.av_agg a), take_all (Tm.av_cells b), agg_cells (Tm.av_agg b), evb0, evb1, evb2, evb3, evb4, evb5, evb6, evb7, evb8, evb9, ↓evZ2, ↓evZ3, ↓Int.cast_ofNat_Int, implies_true, ne_eq, or_false, false_or, or_self, gt_iff_lt, isMut, aFn, List.contains, List.elem, aBox, aField, aLoad, sub, aNil, aPick, aExt, aFld, gd, noJunk, plainOp, aBuildSlice, aBuild, aFill, aParts, seqParts, fitAll, List.range', ↓reduceIte, reduceCtorEq, Nat.reduceEqDiff, Nat.reduceAdd, Nat.reduceLeDiff, Nat.reduceMul, Nat.reduceLT, Nat.reduceBEq, Int.reduceEq, tf_L3_8]
      refine (c_impl_VariantTerms x y hx hy _).to ?_
      rw [hr, tm_same_refl]
      simp -implicitDefEqProofs only [Tm.av_agg, Tm.av_width, Tm.av_store, Tm.av_junk, Tm.av_cells, Nat.le_refl, setCells, h43, h43.symm, zero_cells, take_all (Tm.av_cells a), agg_cells (Tm.av_agg a), take_all (Tm.av_cells b), agg_cells (Tm.av_agg b), evb0, evb1, evb2, evb3, evb4, evb5, evb6, evb7, evb8, evb9, ↓evZ2, ↓evZ3, ↓Int.cast_ofNat_Int, implies_true, ne_eq, or_false, false_or, or_self, gt_iff_lt, isMut, aFn, List.contains, List.elem, aBox, aField, aLoad, sub, aNil, aPick, aExt, aFld, gd, noJunk, plainOp, aBuildSlice, aBuild, aFill, aParts, seqParts, fitAll, List.range', ↓reduceIte, reduceCtorEq, Nat.reduceEqDiff, Nat.reduceAdd, Nat.reduceLeDiff, Nat.reduceMul, Nat.reduceLT, Nat.reduceBEq, Int.reduceEq, tf_L3_8]
end Go.AW

/- What a law is handed, read as data; the law's row from a contract. -/
namespace Go.AW
open Go.ChangeShapes Go.WideShapes Go.ChangeAt Go.RowKit

/-- No block is owned. -/
abbrev none0 : Store := fun _ => none

section
variable {H : Type} {enc : TypeId × Value → H} {P : Program} {w : World}

/-- Whatever is read as type t is data. -/
def Reads (enc : TypeId × Value → H) (P : Program) (w : World) (t n : Nat) {α : Type} (av : α → AV) : Prop :=
  ∀ cs x, DataW.trod enc P w 0 (fun _ => true) true n t cs = some x → ∃ a : α, VC w.heap none0 (av a) cs

theorem VEs_each {h : Heap} {st : Store} {b k : Nat} : ∀ {es : List AV} {off : Nat}, (∀ e ∈ es, e.width = k) → (∀ (i : Nat) e, es[i]? = some e → VE h st b (off + i * k) e) → VEs h st b off es
  | [], _, _, _ => by simp [VEs]
  | e :: es, off, hw, h => by
    simp only [VEs]
    refine ⟨by simpa [VE] using h 0 e rfl, VEs_each (fun x hx => hw x (by simp [hx])) fun i x hx => ?_⟩
    have := h (i + 1) x (by simpa using hx)
    rw [hw e (by simp), Nat.add_assoc, ← Nat.succ_mul' k i] 
    exact this
where Nat.succ_mul' (k i : Nat) : (i + 1) * k = k + i * k := by rw [Nat.succ_mul]; omega

theorem cell_spot {a : Addr} {v : Value} (h : w.cell? a = some v) : a.spot = none ∧ a.block < w.heap.size ∧ cellAt w.heap a.block a.off = some v := by
  unfold World.cell? at h
  split at h
  · rename_i c t fr hb
    split at h
    · cases h
    · rename_i hs
      refine ⟨by simpa using hs, (Array.getElem?_eq_some_iff.1 hb).1, by simp [cellAt, hb, h]⟩
  · cases h

theorem cells_at {a : Addr} {n : Nat} {cs : List Value} (hs : a.spot = none) (h : w.cells? 0 a n = some cs) : cellsAt w.heap a.block a.off cs ∧ cs.length = n := by
  obtain ⟨_, hl, hc⟩ := World.cells?_some h
  refine ⟨?_, hl⟩
  have : ∀ (l : List Value) (k : Nat), (∀ i, i < l.length → w.cell? (a.add (k + i)) = l[i]?) → cellsAt w.heap a.block (a.off + k) l := by
    intro l
    induction l with
    | nil => intro _ _; trivial
    | cons v l ih =>
      intro k hk
      refine ⟨?_, ?_⟩
      · have := (cell_spot (hk 0 (by simp))).2.2
        obtain ⟨b, off, sp⟩ := a
        simp only at hs
        subst hs
        simpa [Addr.add_flat] using this
      · have := ih (k + 1) (fun i hi => by have := hk (i + 1) (by simp; omega); rw [show k + 1 + i = k + (i + 1) by omega]; simpa using this)
        simpa [Nat.add_assoc] using this
  simpa using this cs 0 (fun i hi => by simpa using hc i (by omega))

theorem reads_slice {t e n k : Nat} {α : Type} {av : α → AV} (ht : P.underlying t = some (.slice e)) (hk : P.cellsOf e = k) (hpos : 0 < k) (hw : ∀ a, (av a).width = k) (hr : ∀ m, m < n → Reads enc P w e m av) :
    Reads enc P w t n (fun l : List α => .slice (l.map av)) := by
  intro cs x h
  rcases DataW.trod_slice ht h with ⟨rfl, _⟩ | ⟨a, len, cap, elems, rest, m, hm, rfl, rfl, _, hl, hcap, hlen, hel, hsp, _⟩
  · exact ⟨[], by simp only [List.map_nil]; unfold VC; exact .inl ⟨⟨_, rfl⟩, rfl⟩⟩
  obtain ⟨hrl, hrest⟩ := hsp rfl
  rw [hk] at hel hrest
  have get : ∀ i, i < cap → ∃ ds y, w.cells? 0 (a.add (i * k)) k = some ds ∧ DataW.trod enc P w 0 (fun _ => true) true m e ds = some y := by
    intro i hi
    have hb : ∃ y, (w.cells? 0 (a.add (i * k)) k).bind (DataW.trod enc P w 0 (fun _ => true) true m e) = some y := by
      by_cases hi' : i < len
      · exact ⟨elems[i]'(by omega), by rw [hel i hi']; simp [show i < elems.length by omega]⟩
      · have := hrest (i - len) (by omega)
        rw [show len + (i - len) = i by omega] at this
        exact ⟨rest[i - len]'(by omega), by rw [this]; simp [show i - len < rest.length by omega]⟩
    obtain ⟨y, hy⟩ := hb
    obtain ⟨ds, h1, h2⟩ := Option.bind_eq_some_iff.1 hy
    exact ⟨ds, y, h1, h2⟩
  by_cases hc0 : cap = 0
  · subst hc0
    obtain rfl : len = 0 := by omega
    exact ⟨[], by simp only [List.map_nil]; unfold VC; exact .inl ⟨⟨_, rfl⟩, rfl⟩⟩
  obtain ⟨ds0, _, hd0, _⟩ := get 0 (by omega)
  have hspot : a.spot = none ∧ a.block < w.heap.size := by
    obtain ⟨_, hl0, hc⟩ := World.cells?_some hd0
    have := hc 0 hpos
    have h0 : ds0[0]? = some (ds0[0]'(by omega)) := by simp [hl0, hpos]
    rw [h0] at this
    have := cell_spot this
    obtain ⟨b, off, sp⟩ := a
    simp only [Nat.zero_mul] at this
    cases sp with
    | none => exact ⟨rfl, by simpa [Addr.add_flat] using this.2.1⟩
    | some s => exact absurd this.1 (by simp [Addr.add])
  obtain ⟨b, off, sp⟩ := a
  simp only at hspot
  obtain ⟨rfl, hbl⟩ := hspot
  have val : ∀ i, i < len → ∃ v : α, VE w.heap none0 b (off + i * k) (av v) := by
    intro i hi
    obtain ⟨ds, y, h1, h2⟩ := get i (by omega)
    obtain ⟨v, hv⟩ := hr m (by omega) ds y h2
    obtain ⟨c1, c2⟩ := cells_at (a := (⟨b, off, none⟩ : Addr).add (i * k)) (by simp [Addr.add_flat]) h1
    exact ⟨v, ds, by simpa [Addr.add_flat] using c1, by rw [hw]; exact c2, hv⟩
  have build : ∀ j, j ≤ len → ∃ l : List α, l.length = j ∧ ∀ (i : Nat) v, l[i]? = some v → VE w.heap none0 b (off + i * k) (av v) := by
    intro j
    induction j with
    | zero => intro _; exact ⟨[], rfl, by simp⟩
    | succ j ih =>
      intro hj
      obtain ⟨l, h1, h2⟩ := ih (by omega)
      obtain ⟨v, hv⟩ := val j (by omega)
      refine ⟨l ++ [v], by simp [h1], fun i u hi => ?_⟩
      rw [List.getElem?_append] at hi
      split at hi
      · exact h2 i u hi
      · rename_i hge
        have : i = j := by
          have := (List.getElem?_eq_some_iff.1 hi).1
          simp at this
          omega
        subst this
        simp [h1] at hi
        subst hi
        exact hv
  obtain ⟨l, h1, h2⟩ := build len (Nat.le_refl _)
  refine ⟨l, ?_⟩
  unfold VC
  refine .inr ⟨b, off, cap, by simp [h1], by simp [h1]; exact hl, hcap, rfl, hbl, even_map hw l, VEs_each (k := k) (by intro e he; simp only [List.mem_map] at he; obtain ⟨v, _, rfl⟩ := he; exact hw v) fun i e he => ?_⟩
  rw [List.getElem?_map] at he
  obtain ⟨v, hv, rfl⟩ := Option.map_eq_some_iff.1 he
  exact h2 i v hv

theorem reads_val {t : TypeId} {α : Type} {av : α → AV} {v : Value} {d : DataW H} {ps : List MemPlace} (hr : ∀ n, Reads enc P w t n av) (hag : ∀ a, (av a).isAgg = vIsAgg v) (h : DataW.Trod enc P w 0 (fun _ => true) true t v d ps) :
    ∃ a : α, VRel w.heap none0 (av a) v := by
  obtain ⟨n, hn⟩ := h
  obtain ⟨a, ha⟩ := hr n _ _ hn
  refine ⟨a, ?_⟩
  have := hag a
  cases hq : av a <;> rw [hq] at ha this <;> first | trivial | exact ⟨this, ha⟩

/-! ### The row -/
theorem trodAll_stays (hl : laidOutB P = true) {W W' : World} {sp : Nat → Bool} : ∀ {ts : List TypeId} {vs : List Value} {ds : List (DataW H)} {ps : List MemPlace}, (ts.all fun t => P.readableRec t && decide (t < P.types.size)) = true →
    DataW.TrodAll enc P W 0 (fun _ => true) true ts vs ds ps → (∀ x ∈ ps, W.sameAt W' x) → (∀ x ∈ ps, sp x.block = true) → DataW.TrodAll enc P W' 0 sp true ts vs ds ps
  | [], vs, ds, ps, _, h, _, _ => by
    cases vs <;> cases ds <;> simp [DataW.TrodAll] at h ⊢
    exact h
  | t :: ts, vs, ds, ps, ht, h, h1, h2 => by
    obtain ⟨v, vs', d, ds', p, q, rfl, rfl, rfl, hd, hrest⟩ := trodAll_cons h
    simp only [List.all_cons, Bool.and_eq_true, decide_eq_true_eq] at ht
    refine ⟨p, q, Go.WideElems.Trod_stays hl ht.1.1 ht.1.2 hd (fun x hx => h1 x (by simp [hx])) (fun x hx => h2 x (by simp [hx])), trodAll_stays hl ht.2 hrest (fun x hx => h1 x (by simp [hx])) (fun x hx => h2 x (by simp [hx])), rfl⟩

theorem below_of {W W' : World} {st' : Store} (T : StepH W.heap none0 W'.heap st') (s : Same W W') : Below W.heap.size W W' :=
  ⟨s.1, s.2.1, s.2.2, T.size, fun k hk => (T.keep k hk rfl).1⟩

/-- A law that returns true and writes nothing that was there. -/
theorem law_row {f : Func} {g : FuncId} {s : ChangeSpec} {W : World} {args : Array Value} {ds : List (DataW H)} {before : List MemPlace} {avs : List AV} {tb : TypeId}
    (hl : laidOutB P = true) (hts : (f.params.toList.all fun t => P.readableRec t && decide (t < P.types.size)) = true) (hrt : f.resultTypes = #[tb]) (htb : P.underlying tb = some .bool) (hsv : s.vars = [])
    (hW : DataW.Whole enc P f.params.toList [] false W args.toList ds [] before) (hfn : s.fn H ds = { results := [.lit (.bool true)], args := ds }) (hrel : VRelL W.heap none0 avs args.toList)
    (hc : ACalls P g avs none0 (fun r _ => r = .bool true)) :
    Calls P g args W fun e W' => ∃ v, e = .returned v ∧ s.post enc P f false true false false W args v W' := by
  have hS : SRel W.heap none0 := fun b o h => by cases h
  have := hc.2 W args.toList hS hrel
  simp only [Array.toArray_toList] at this
  refine this.mono ?_
  rintro e W' ⟨v, r, st', rfl, hv, _, T, sm, rfl⟩
  refine ⟨v, rfl, ?_⟩
  have hB := below_of T sm
  rw [hv.bool_of]
  have hW' : DataW.Whole enc P f.params.toList s.vars false W args.toList ds [] before := by rw [hsv]; exact hW
  obtain ⟨p, q, hA, hV, rfl, hz, _⟩ := hW
  obtain ⟨_, rfl⟩ := trodVars_none hV
  have hlt : ∀ x ∈ p, x.block < W.heap.size := fun x hx => hW'.lt x (by simp [hx])
  have hres : ∀ (b : Nat) (sp : Nat → Bool) (hd : Bool), DataW.TrodAll enc P W' b sp hd f.resultTypes.toList ((Value.bool true).resultList f.resultTypes.size) (s.fn H (ds ++ [])).results [] := fun _ _ _ => by
    rw [List.append_nil, hfn, hrt]
    exact trodAll_mk1 (shut_bool htb true)
  have hargs : ∀ sp : Nat → Bool, (∀ x ∈ p, sp x.block = true) → DataW.TrodAll enc P W' 0 sp true f.params.toList args.toList (s.fn H (ds ++ [])).args p := fun sp hsp => by
    rw [List.append_nil, hfn]
    exact trodAll_stays hl hts hA (fun x hx => hB.same (hlt x hx)) hsp
  have hvars : ∀ sp : Nat → Bool, DataW.TrodVars enc P W' sp s.vars (s.fn H (ds ++ [])).vars [] := fun sp => by
    rw [List.append_nil, hfn, hsv]
    exact rfl
  refine ⟨ds, [], p ++ [], [], p, [], hW', hres _ _ _, hargs _ (fun x hx => by simpa using hlt x hx), hvars _, World.keptBut_mono (fun x hx => ⟨hx, by simpa using hx⟩) (hB.frame (· ∈ p ++ [])), fun _ => ?_⟩
  refine ⟨ok_one hrt rfl (okWide_bool_mk htb true), _, _, ([] ++ p) ++ [], ⟨[] ++ p, [], trodAll_append (hargs _ (fun _ _ => rfl)) (hres _ _ _), hvars _, rfl, ?_, ?_⟩, ?_⟩
  · intro b off hp
    have hp' : MemPlace.cell b off ∈ p := by simpa using hp
    rw [hB.frozen (p := ⟨b, off, none⟩) (hlt _ hp')]
    exact hz b off (by simpa using hp')
  · intro ha; cases ha
  · intro x hx _
    simpa using hx
end
end Go.AW


/- Bytes, read. -/
namespace Go.AW
open Go.Proofs.Try
set_option maxRecDepth 100000
section
variable {H : Type} {enc : TypeId × Value → H} {w : World}
theorem cellsOf_uint8 : prog.cellsOf 5 = 1 := by kernel_rfl
theorem reads_byte (n : Nat) : Reads enc prog w 5 n byteAv := by
  intro cs x h
  obtain ⟨k, rfl, _, hw⟩ := DataW.trod_int underlying5 h
  simp only [Lit.wf, IntKind.min, IntKind.max, IntKind.signed, IntKind.bits, Bool.and_eq_true, decide_eq_true_eq] at hw
  refine ⟨⟨k.toNat, ?_⟩, ?_⟩
  · simp at hw; omega
  · have : (((k.toNat : Nat)) : Int) = k := by simp at hw; omega
    simp only [byteAv, this, VC]
theorem reads_bytes (n : Nat) : Reads enc prog w 39 n (fun l : List Bt => .slice (l.map byteAv)) :=
  reads_slice underlying39 cellsOf_uint8 (by omega) byteAv_width fun m _ => reads_byte m
end
end Go.AW


/- Terms, answers, numbers and bytes, read. -/
namespace Go.AW
open Go.Proofs.Try
set_option maxRecDepth 100000
section
variable {H : Type} {enc : TypeId × Value → H} {w : World}

/-- Any other value. -/
theorem wide_slice {r : Reach} {b0 : Nat} {t e : TypeId} {v : Value} (ht : prog.underlying t = some (.slice e)) (h : Value.okWide prog w r b0 t v) : vIsAgg v = false := by
  cases v <;> first | rfl | (simp [Value.okWide, ht, Cell.okWide, Cell.ok] at h)
end
end Go.AW
