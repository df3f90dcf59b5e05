import Derived.Test.YtccofeljgfmplaaUgFinm
import Derived.Test.YtccofeljgfmplaaUgFink

/- The program's store of bindings: does a variable occur. -/
namespace Go.AW
open Go.Proofs.Try
set_option linter.unusedSimpArgs false
set_option maxRecDepth 100000

theorem tf_S2_169 : (type_of% tI_2) ∧ (type_of% zI_2) ∧ (type_of% Go.Proofs.Try.underlying2) ∧ (type_of% tI_3) ∧ (type_of% zI_3) ∧ (type_of% Go.Proofs.Try.underlying3) ∧ (type_of% tI_4) ∧ (type_of% zI_4) ∧ (type_of% Go.Proofs.Try.underlying4) ∧ (type_of% tI_5) ∧ (type_of% zI_5) ∧ (type_of% Go.Proofs.Try.underlying5) ∧ (type_of% tI_6) ∧ (type_of% zI_6) ∧ (type_of% Go.Proofs.Try.underlying6) ∧ (type_of% tI_7) ∧ (type_of% zI_7) ∧ (type_of% fI_7_0) ∧ (type_of% fI_7_1) ∧ (type_of% fI_7_2) ∧ (type_of% fI_7_3) ∧ (type_of% bI_7) ∧ (type_of% tI_8) ∧ (type_of% zI_8) ∧ (type_of% fI_8_0) ∧ (type_of% fI_8_1) ∧ (type_of% fI_8_2) ∧ (type_of% fI_8_3) ∧ (type_of% bI_8) ∧ (type_of% tI_11) ∧ (type_of% zI_11) ∧ (type_of% Go.Proofs.Try.underlying11) ∧ (type_of% tI_15) ∧ (type_of% zI_15) ∧ (type_of% tI_16) ∧ (type_of% zI_16) ∧ (type_of% tI_18) ∧ (type_of% zI_18) ∧ (type_of% fI_18_0) ∧ (type_of% bI_18) ∧ (type_of% tI_19) ∧ (type_of% zI_19) ∧ (type_of% fI_19_0) ∧ (type_of% bI_19) ∧ (type_of% tI_27) ∧ (type_of% zI_27) ∧ (type_of% eI_27) ∧ (type_of% eB_27) ∧ (type_of% eZ_27) ∧ (type_of% Go.Proofs.Try.underlying27) ∧ (type_of% tI_41) ∧ (type_of% zI_41) ∧ (type_of% fI_41_0) ∧ (type_of% fI_41_1) ∧ (type_of% fI_41_2) ∧ (type_of% fI_41_3) ∧ (type_of% bI_41) ∧ (type_of% tI_64) ∧ (type_of% zI_64) ∧ (type_of% fI_64_0) ∧ (type_of% fI_64_1) ∧ (type_of% bI_64) := ⟨tI_2, zI_2, Go.Proofs.Try.underlying2, tI_3, zI_3, Go.Proofs.Try.underlying3, tI_4, zI_4, Go.Proofs.Try.underlying4, tI_5, zI_5, Go.Proofs.Try.underlying5, tI_6, zI_6, Go.Proofs.Try.underlying6, tI_7, zI_7, fI_7_0, fI_7_1, fI_7_2, fI_7_3, bI_7, tI_8, zI_8, fI_8_0, fI_8_1, fI_8_2, fI_8_3, bI_8, tI_11, zI_11, Go.Proofs.Try.underlying11, tI_15, zI_15, tI_16, zI_16, tI_18, zI_18, fI_18_0, bI_18, tI_19, zI_19, fI_19_0, bI_19, tI_27, zI_27, eI_27, eB_27, eZ_27, Go.Proofs.Try.underlying27, tI_41, zI_41, fI_41_0, fI_41_1, fI_41_2, fI_41_3, bI_41, tI_64, zI_64, fI_64_0, fI_64_1, bI_64⟩
theorem c_IndexFuncTmS (l : List Tm) (g : FuncId) (caps : List AV) (p : Tm → Bool) (J E : Store → Prop) (hc : ∀ x ∈ l, ∀ s, J s → ACalls prog g ([Tm.av x] ++ caps) s (fun r s' => r = .bool (p x) ∧ (p x = true → E s') ∧ (p x = false → J s'))) (st : Store) (h0 : J st) :
    ACalls prog 169 [.slice (l.map Tm.av), .func g caps] st (fun r st' => r = .int .i64 (idxP p l 0) ∧ (l.any p = true → E st') ∧ (l.any p = false → J st')) := by
  refine acalls_fit [1000000] func169 ntmps169 rfl rfl (by kernel_rfl) (by decide +kernel) (by show 2 ≤ _; decide +kernel) ?_
  simp only [fitsL, AV.fits, and_true, List.length_map]
  intro ⟨hl, _⟩
  simp -implicitDefEqProofs only [List.length_map, evb0, evb1, evb2, evb3, evb4, evb5, evb6, evb7, evb8, evb9, ↓evZ2, ↓evZ3, ↓Int.cast_ofNat_Int, implies_true, ne_eq, or_false, false_or, or_self, gt_iff_lt, isMut, aFn, List.contains, List.elem, aBox, aField, aLoad, sub, aNil, aPick, aExt, aFld, gd, noJunk, plainOp, aBuildSlice, aBuild, aFill, aParts, seqParts, fitAll, List.range', ↓reduceIte, reduceCtorEq, Nat.reduceEqDiff, Nat.reduceAdd, Nat.reduceLeDiff, Nat.reduceMul, Nat.reduceLT, Nat.reduceBEq, Int.reduceEq, tf_S2_169]
  refine arun_each (σ := Store) [1000000] [0, 1, 7] l (fun i s => J s ∧ idxP p (l.drop i) i = idxP p l 0 ∧ (l.drop i).any p = l.any p) (fun i _ => [(8, .int .i64 i)]) (fun _ s => s) (by decide +kernel) ⟨st, ⟨h0, rfl, rfl⟩, LessL.mk (by simp -implicitDefEqProofs only [evb0, evb1, evb2, evb3, evb4, evb5, evb6, evb7, evb8, evb9, ↓evZ2, ↓evZ3, ↓Int.cast_ofNat_Int, implies_true, ne_eq, or_false, false_or, or_self, gt_iff_lt, isMut, aFn, List.contains, List.elem, aBox, aField, aLoad, sub, aNil, aPick, aExt, aFld, gd, noJunk, plainOp, aBuildSlice, aBuild, aFill, aParts, seqParts, fitAll, List.range', ↓reduceIte, reduceCtorEq, Nat.reduceEqDiff, Nat.reduceAdd, Nat.reduceLeDiff, Nat.reduceMul, Nat.reduceLT, Nat.reduceBEq, Int.reduceEq, tf_S2_169])⟩ (fun i x s hx hlt hlt' hdr hinv => ?_) (fun s hge hinv => ?_)
  case refine_2 =>
    obtain ⟨i1, i2, i3⟩ := hinv
    rw [List.drop_length] at i2 i3
    simp -implicitDefEqProofs only [List.length_map, hge, evb0, evb1, evb2, evb3, evb4, evb5, evb6, evb7, evb8, evb9, ↓evZ2, ↓evZ3, ↓Int.cast_ofNat_Int, implies_true, ne_eq, or_false, false_or, or_self, gt_iff_lt, isMut, aFn, List.contains, List.elem, aBox, aField, aLoad, sub, aNil, aPick, aExt, aFld, gd, noJunk, plainOp, aBuildSlice, aBuild, aFill, aParts, seqParts, fitAll, List.range', ↓reduceIte, reduceCtorEq, Nat.reduceEqDiff, Nat.reduceAdd, Nat.reduceLeDiff, Nat.reduceMul, Nat.reduceLT, Nat.reduceBEq, Int.reduceEq, tf_S2_169]
    exact ⟨by rw [← i2]; rfl, fun h => (by rw [← i3] at h; cases h), fun _ => i1⟩
  obtain ⟨i1, i2, i3⟩ := hinv
  rw [hdr, idxP] at i2
  rw [hdr, List.any_cons] at i3
  have hw := wrap64 (n := (i : Int) + 1) (by omega) (by omega)
  simp -implicitDefEqProofs only [List.length_map, hlt', ev_at (av := Tm.av) eI_27 hx (Tm.av_width x), Tm.av_agg, Tm.av_width, evb0, evb1, evb2, evb3, evb4, evb5, evb6, evb7, evb8, evb9, ↓evZ2, ↓evZ3, ↓Int.cast_ofNat_Int, implies_true, ne_eq, or_false, false_or, or_self, gt_iff_lt, isMut, aFn, List.contains, List.elem, aBox, aField, aLoad, sub, aNil, aPick, aExt, aFld, gd, noJunk, plainOp, aBuildSlice, aBuild, aFill, aParts, seqParts, fitAll, List.range', ↓reduceIte, reduceCtorEq, Nat.reduceEqDiff, Nat.reduceAdd, Nat.reduceLeDiff, Nat.reduceMul, Nat.reduceLT, Nat.reduceBEq, Int.reduceEq, tf_S2_169]
  refine (hc x (List.mem_of_getElem? hx) s i1).mono ?_
  rintro _ s2 ⟨rfl, hE, hJ⟩
  simp -implicitDefEqProofs only [evb0, evb1, evb2, evb3, evb4, evb5, evb6, evb7, evb8, evb9, ↓evZ2, ↓evZ3, ↓Int.cast_ofNat_Int, implies_true, ne_eq, or_false, false_or, or_self, gt_iff_lt, isMut, aFn, List.contains, List.elem, aBox, aField, aLoad, sub, aNil, aPick, aExt, aFld, gd, noJunk, plainOp, aBuildSlice, aBuild, aFill, aParts, seqParts, fitAll, List.range', ↓reduceIte, reduceCtorEq, Nat.reduceEqDiff, Nat.reduceAdd, Nat.reduceLeDiff, Nat.reduceMul, Nat.reduceLT, Nat.reduceBEq, Int.reduceEq, tf_S2_169]
  refine cond_split (fun h => ?_) (fun h => ?_)
  · rw [if_pos h] at i2
    rw [h, Bool.true_or] at i3
    simp -implicitDefEqProofs only [evb0, evb1, evb2, evb3, evb4, evb5, evb6, evb7, evb8, evb9, ↓evZ2, ↓evZ3, ↓Int.cast_ofNat_Int, implies_true, ne_eq, or_false, false_or, or_self, gt_iff_lt, isMut, aFn, List.contains, List.elem, aBox, aField, aLoad, sub, aNil, aPick, aExt, aFld, gd, noJunk, plainOp, aBuildSlice, aBuild, aFill, aParts, seqParts, fitAll, List.range', ↓reduceIte, reduceCtorEq, Nat.reduceEqDiff, Nat.reduceAdd, Nat.reduceLeDiff, Nat.reduceMul, Nat.reduceLT, Nat.reduceBEq, Int.reduceEq, tf_S2_169]
    exact ⟨by rw [i2], fun _ => hE h, fun h' => (by rw [← i3] at h'; cases h')⟩
  · rw [if_neg (by simp [h])] at i2
    rw [h, Bool.false_or] at i3
    simp -implicitDefEqProofs only [evb0, evb1, evb2, evb3, evb4, evb5, evb6, evb7, evb8, evb9, ↓evZ2, ↓evZ3, ↓Int.cast_ofNat_Int, implies_true, ne_eq, or_false, false_or, or_self, gt_iff_lt, isMut, aFn, List.contains, List.elem, aBox, aField, aLoad, sub, aNil, aPick, aExt, aFld, gd, noJunk, plainOp, aBuildSlice, aBuild, aFill, aParts, seqParts, fitAll, List.range', ↓reduceIte, reduceCtorEq, Nat.reduceEqDiff, Nat.reduceAdd, Nat.reduceLeDiff, Nat.reduceMul, Nat.reduceLT, Nat.reduceBEq, Int.reduceEq, tf_S2_169]
    exact ⟨s2, ⟨hJ h, i2, i3⟩, LessL.mk (by simp -implicitDefEqProofs only [hw, evb0, evb1, evb2, evb3, evb4, evb5, evb6, evb7, evb8, evb9, ↓evZ2, ↓evZ3, ↓Int.cast_ofNat_Int, implies_true, ne_eq, or_false, false_or, or_self, gt_iff_lt, isMut, aFn, List.contains, List.elem, aBox, aField, aLoad, sub, aNil, aPick, aExt, aFld, gd, noJunk, plainOp, aBuildSlice, aBuild, aFill, aParts, seqParts, fitAll, List.range', ↓reduceIte, reduceCtorEq, Nat.reduceEqDiff, Nat.reduceAdd, Nat.reduceLeDiff, Nat.reduceMul, Nat.reduceLT, Nat.reduceBEq, Int.reduceEq, tf_S2_169])⟩

theorem tf_S2_118 : (type_of% tI_3) ∧ (type_of% zI_3) ∧ (type_of% Go.Proofs.Try.underlying3) ∧ (type_of% tI_4) ∧ (type_of% zI_4) ∧ (type_of% Go.Proofs.Try.underlying4) ∧ (type_of% tI_5) ∧ (type_of% zI_5) ∧ (type_of% Go.Proofs.Try.underlying5) ∧ (type_of% tI_6) ∧ (type_of% zI_6) ∧ (type_of% Go.Proofs.Try.underlying6) ∧ (type_of% tI_7) ∧ (type_of% zI_7) ∧ (type_of% fI_7_0) ∧ (type_of% fI_7_1) ∧ (type_of% fI_7_2) ∧ (type_of% fI_7_3) ∧ (type_of% bI_7) ∧ (type_of% tI_9) ∧ (type_of% zI_9) ∧ (type_of% Go.Proofs.Try.underlying9) ∧ (type_of% tI_27) ∧ (type_of% zI_27) ∧ (type_of% eI_27) ∧ (type_of% eB_27) ∧ (type_of% eZ_27) ∧ (type_of% Go.Proofs.Try.underlying27) ∧ (type_of% tI_64) ∧ (type_of% zI_64) ∧ (type_of% fI_64_0) ∧ (type_of% fI_64_1) ∧ (type_of% bI_64) ∧ (type_of% tI_125) ∧ (type_of% zI_125) ∧ (type_of% fI_125_0) ∧ (type_of% fI_125_1) ∧ (type_of% bI_125) ∧ (type_of% tI_169) ∧ (type_of% zI_169) ∧ (type_of% fI_169_0) ∧ (type_of% fI_169_1) ∧ (type_of% fI_169_2) ∧ (type_of% fI_169_3) ∧ (type_of% fI_169_4) ∧ (type_of% fI_169_5) ∧ (type_of% bI_169) := ⟨tI_3, zI_3, Go.Proofs.Try.underlying3, tI_4, zI_4, Go.Proofs.Try.underlying4, tI_5, zI_5, Go.Proofs.Try.underlying5, tI_6, zI_6, Go.Proofs.Try.underlying6, tI_7, zI_7, fI_7_0, fI_7_1, fI_7_2, fI_7_3, bI_7, tI_9, zI_9, Go.Proofs.Try.underlying9, tI_27, zI_27, eI_27, eB_27, eZ_27, Go.Proofs.Try.underlying27, tI_64, zI_64, fI_64_0, fI_64_1, bI_64, tI_125, zI_125, fI_125_0, fI_125_1, bI_125, tI_169, zI_169, fI_169_0, fI_169_1, fI_169_2, fI_169_3, fI_169_4, fI_169_5, bI_169⟩
theorem c_ContainsFuncTmS (l : List Tm) (g : FuncId) (caps : List AV) (p : Tm → Bool) (J E : Store → Prop) (hc : ∀ x ∈ l, ∀ s, J s → ACalls prog g ([Tm.av x] ++ caps) s (fun r s' => r = .bool (p x) ∧ (p x = true → E s') ∧ (p x = false → J s'))) (st : Store) (h0 : J st) :
    ACalls prog 118 [.slice (l.map Tm.av), .func g caps] st (fun r st' => r = .bool (l.any p) ∧ (l.any p = true → E st') ∧ (l.any p = false → J st')) := by
  refine acalls_fit [1000000] func118 ntmps118 rfl rfl (by kernel_rfl) (by decide +kernel) (by show 2 ≤ _; decide +kernel) ?_
  intro _
  simp -implicitDefEqProofs only [evb0, evb1, evb2, evb3, evb4, evb5, evb6, evb7, evb8, evb9, ↓evZ2, ↓evZ3, ↓Int.cast_ofNat_Int, implies_true, ne_eq, or_false, false_or, or_self, gt_iff_lt, isMut, aFn, List.contains, List.elem, aBox, aField, aLoad, sub, aNil, aPick, aExt, aFld, gd, noJunk, plainOp, aBuildSlice, aBuild, aFill, aParts, seqParts, fitAll, List.range', ↓reduceIte, reduceCtorEq, Nat.reduceEqDiff, Nat.reduceAdd, Nat.reduceLeDiff, Nat.reduceMul, Nat.reduceLT, Nat.reduceBEq, Int.reduceEq, tf_S2_118]
  refine (c_IndexFuncTmS l g caps p J E hc st h0).mono ?_
  rintro _ s2 ⟨rfl, hE, hJ⟩
  simp -implicitDefEqProofs only [idxP_any, evb0, evb1, evb2, evb3, evb4, evb5, evb6, evb7, evb8, evb9, ↓evZ2, ↓evZ3, ↓Int.cast_ofNat_Int, implies_true, ne_eq, or_false, false_or, or_self, gt_iff_lt, isMut, aFn, List.contains, List.elem, aBox, aField, aLoad, sub, aNil, aPick, aExt, aFld, gd, noJunk, plainOp, aBuildSlice, aBuild, aFill, aParts, seqParts, fitAll, List.range', ↓reduceIte, reduceCtorEq, Nat.reduceEqDiff, Nat.reduceAdd, Nat.reduceLeDiff, Nat.reduceMul, Nat.reduceLT, Nat.reduceBEq, Int.reduceEq, tf_S2_118]
  exact ⟨hE, hJ⟩


/-- What a look for a variable leaves. -/
def Occ (R : Int → Tm) (n : Int) (t : Tm) (st : Store) (mm : Nat) (M : List Int) (r : AV) (st' : Store) : Prop :=
  r = .bool (decide (n ∈ (t.mapv R).vl)) ∧ ∃ M', st' = st.upd mm (.map (metOf M')) ∧ (n ∉ (t.mapv R).vl → ∀ v ∈ M', v ∈ M ∨ n ∉ (R v).vl)

theorem tf_S2_192 : (type_of% tI_3) ∧ (type_of% zI_3) ∧ (type_of% Go.Proofs.Try.underlying3) ∧ (type_of% tI_4) ∧ (type_of% zI_4) ∧ (type_of% Go.Proofs.Try.underlying4) ∧ (type_of% tI_6) ∧ (type_of% zI_6) ∧ (type_of% Go.Proofs.Try.underlying6) ∧ (type_of% tI_7) ∧ (type_of% zI_7) ∧ (type_of% fI_7_0) ∧ (type_of% fI_7_1) ∧ (type_of% fI_7_2) ∧ (type_of% fI_7_3) ∧ (type_of% bI_7) ∧ (type_of% tI_8) ∧ (type_of% zI_8) ∧ (type_of% fI_8_0) ∧ (type_of% fI_8_1) ∧ (type_of% fI_8_2) ∧ (type_of% fI_8_3) ∧ (type_of% bI_8) ∧ (type_of% tI_9) ∧ (type_of% zI_9) ∧ (type_of% Go.Proofs.Try.underlying9) ∧ (type_of% tI_10) ∧ (type_of% zI_10) ∧ (type_of% Go.Proofs.Try.underlying10) ∧ (type_of% tI_11) ∧ (type_of% zI_11) ∧ (type_of% Go.Proofs.Try.underlying11) ∧ (type_of% tI_41) ∧ (type_of% zI_41) ∧ (type_of% fI_41_0) ∧ (type_of% fI_41_1) ∧ (type_of% fI_41_2) ∧ (type_of% fI_41_3) ∧ (type_of% bI_41) ∧ (type_of% tI_53) ∧ (type_of% zI_53) ∧ (type_of% fI_53_0) ∧ (type_of% fI_53_1) ∧ (type_of% bI_53) ∧ (type_of% tI_102) ∧ (type_of% zI_102) ∧ (type_of% tI_170) ∧ (type_of% zI_170) ∧ (type_of% fI_170_0) ∧ (type_of% fI_170_1) ∧ (type_of% fI_170_2) ∧ (type_of% fI_170_3) ∧ (type_of% fI_170_4) ∧ (type_of% fI_170_5) ∧ (type_of% bI_170) ∧ (type_of% tI_194) ∧ (type_of% zI_194) ∧ (type_of% Go.Proofs.Try.underlying194) := ⟨tI_3, zI_3, Go.Proofs.Try.underlying3, tI_4, zI_4, Go.Proofs.Try.underlying4, tI_6, zI_6, Go.Proofs.Try.underlying6, tI_7, zI_7, fI_7_0, fI_7_1, fI_7_2, fI_7_3, bI_7, tI_8, zI_8, fI_8_0, fI_8_1, fI_8_2, fI_8_3, bI_8, tI_9, zI_9, Go.Proofs.Try.underlying9, tI_10, zI_10, Go.Proofs.Try.underlying10, tI_11, zI_11, Go.Proofs.Try.underlying11, tI_41, zI_41, fI_41_0, fI_41_1, fI_41_2, fI_41_3, bI_41, tI_53, zI_53, fI_53_0, fI_53_1, bI_53, tI_102, zI_102, tI_170, zI_170, fI_170_0, fI_170_1, fI_170_2, fI_170_3, fI_170_4, fI_170_5, bI_170, tI_194, zI_194, Go.Proofs.Try.underlying194⟩
theorem c_occurs_1 {c mm : Nat} {n : Int} {t : Tm} {st : Store} {Q : AV → Store → Prop} (hc : ACalls prog 170 [.ptr c 0, .int .i64 n, t.av, .map mm] st Q) :
    ACalls prog 192 [t.av, .pptr (.ptr c 0), .pptr (.int .i64 n), .pptr (.map mm)] st Q := by
  refine acalls_fit [1000000] func192 ntmps192 rfl rfl (by kernel_rfl) (by decide +kernel) (by show 4 ≤ _; decide +kernel) ?_
  intro _
  simp -implicitDefEqProofs only [evb0, evb1, evb2, evb3, evb4, evb5, evb6, evb7, evb8, evb9, ↓evZ2, ↓evZ3, ↓Int.cast_ofNat_Int, implies_true, ne_eq, or_false, false_or, or_self, gt_iff_lt, isMut, aFn, List.contains, List.elem, aBox, aField, aLoad, sub, aNil, aPick, aExt, aFld, gd, noJunk, plainOp, aBuildSlice, aBuild, aFill, aParts, seqParts, fitAll, List.range', ↓reduceIte, reduceCtorEq, Nat.reduceEqDiff, Nat.reduceAdd, Nat.reduceLeDiff, Nat.reduceMul, Nat.reduceLT, Nat.reduceBEq, Int.reduceEq, tf_S2_192]
  refine hc.mono ?_
  intro r s h
  simp -implicitDefEqProofs only [evb0, evb1, evb2, evb3, evb4, evb5, evb6, evb7, evb8, evb9, ↓evZ2, ↓evZ3, ↓Int.cast_ofNat_Int, implies_true, ne_eq, or_false, false_or, or_self, gt_iff_lt, isMut, aFn, List.contains, List.elem, aBox, aField, aLoad, sub, aNil, aPick, aExt, aFld, gd, noJunk, plainOp, aBuildSlice, aBuild, aFill, aParts, seqParts, fitAll, List.range', ↓reduceIte, reduceCtorEq, Nat.reduceEqDiff, Nat.reduceAdd, Nat.reduceLeDiff, Nat.reduceMul, Nat.reduceLT, Nat.reduceBEq, Int.reduceEq, tf_S2_192]
  exact h

theorem tf_S2_170 : (type_of% tI_2) ∧ (type_of% zI_2) ∧ (type_of% Go.Proofs.Try.underlying2) ∧ (type_of% tI_3) ∧ (type_of% zI_3) ∧ (type_of% Go.Proofs.Try.underlying3) ∧ (type_of% tI_4) ∧ (type_of% zI_4) ∧ (type_of% Go.Proofs.Try.underlying4) ∧ (type_of% tI_5) ∧ (type_of% zI_5) ∧ (type_of% Go.Proofs.Try.underlying5) ∧ (type_of% tI_6) ∧ (type_of% zI_6) ∧ (type_of% Go.Proofs.Try.underlying6) ∧ (type_of% tI_7) ∧ (type_of% zI_7) ∧ (type_of% fI_7_0) ∧ (type_of% fI_7_1) ∧ (type_of% fI_7_2) ∧ (type_of% fI_7_3) ∧ (type_of% bI_7) ∧ (type_of% tI_8) ∧ (type_of% zI_8) ∧ (type_of% fI_8_0) ∧ (type_of% fI_8_1) ∧ (type_of% fI_8_2) ∧ (type_of% fI_8_3) ∧ (type_of% bI_8) ∧ (type_of% tI_9) ∧ (type_of% zI_9) ∧ (type_of% Go.Proofs.Try.underlying9) ∧ (type_of% tI_21) ∧ (type_of% zI_21) ∧ (type_of% Go.Proofs.Try.underlying21) ∧ (type_of% tI_22) ∧ (type_of% zI_22) ∧ (type_of% eI_22) ∧ (type_of% eB_22) ∧ (type_of% eZ_22) ∧ (type_of% Go.Proofs.Try.underlying22) ∧ (type_of% tI_27) ∧ (type_of% zI_27) ∧ (type_of% eI_27) ∧ (type_of% eB_27) ∧ (type_of% eZ_27) ∧ (type_of% Go.Proofs.Try.underlying27) ∧ (type_of% tI_31) ∧ (type_of% zI_31) ∧ (type_of% fI_31_0) ∧ (type_of% bI_31) ∧ (type_of% tI_32) ∧ (type_of% zI_32) ∧ (type_of% fI_32_0) ∧ (type_of% bI_32) ∧ (type_of% tI_39) ∧ (type_of% zI_39) ∧ (type_of% eI_39) ∧ (type_of% eB_39) ∧ (type_of% eZ_39) ∧ (type_of% Go.Proofs.Try.underlying39) ∧ (type_of% tI_41) ∧ (type_of% zI_41) ∧ (type_of% fI_41_0) ∧ (type_of% fI_41_1) ∧ (type_of% fI_41_2) ∧ (type_of% fI_41_3) ∧ (type_of% bI_41) ∧ (type_of% tI_53) ∧ (type_of% zI_53) ∧ (type_of% fI_53_0) ∧ (type_of% fI_53_1) ∧ (type_of% bI_53) ∧ (type_of% tI_64) ∧ (type_of% zI_64) ∧ (type_of% fI_64_0) ∧ (type_of% fI_64_1) ∧ (type_of% bI_64) ∧ (type_of% tI_102) ∧ (type_of% zI_102) ∧ (type_of% tI_118) ∧ (type_of% zI_118) ∧ (type_of% fI_118_0) ∧ (type_of% fI_118_1) ∧ (type_of% bI_118) ∧ (type_of% tI_170) ∧ (type_of% zI_170) ∧ (type_of% fI_170_0) ∧ (type_of% fI_170_1) ∧ (type_of% fI_170_2) ∧ (type_of% fI_170_3) ∧ (type_of% fI_170_4) ∧ (type_of% fI_170_5) ∧ (type_of% bI_170) ∧ (type_of% tI_194) ∧ (type_of% zI_194) ∧ (type_of% Go.Proofs.Try.underlying194) := ⟨tI_2, zI_2, Go.Proofs.Try.underlying2, tI_3, zI_3, Go.Proofs.Try.underlying3, tI_4, zI_4, Go.Proofs.Try.underlying4, tI_5, zI_5, Go.Proofs.Try.underlying5, tI_6, zI_6, Go.Proofs.Try.underlying6, tI_7, zI_7, fI_7_0, fI_7_1, fI_7_2, fI_7_3, bI_7, tI_8, zI_8, fI_8_0, fI_8_1, fI_8_2, fI_8_3, bI_8, tI_9, zI_9, Go.Proofs.Try.underlying9, tI_21, zI_21, Go.Proofs.Try.underlying21, tI_22, zI_22, eI_22, eB_22, eZ_22, Go.Proofs.Try.underlying22, tI_27, zI_27, eI_27, eB_27, eZ_27, Go.Proofs.Try.underlying27, tI_31, zI_31, fI_31_0, bI_31, tI_32, zI_32, fI_32_0, bI_32, tI_39, zI_39, eI_39, eB_39, eZ_39, Go.Proofs.Try.underlying39, tI_41, zI_41, fI_41_0, fI_41_1, fI_41_2, fI_41_3, bI_41, tI_53, zI_53, fI_53_0, fI_53_1, bI_53, tI_64, zI_64, fI_64_0, fI_64_1, bI_64, tI_102, zI_102, tI_118, zI_118, fI_118_0, fI_118_1, bI_118, tI_170, zI_170, fI_170_0, fI_170_1, fI_170_2, fI_170_3, fI_170_4, fI_170_5, bI_170, tI_194, zI_194, Go.Proofs.Try.underlying194⟩
theorem c_occurs {σ : Sub} {R : Int → Tm} {rk : Int → Nat} {B : Nat} (G : Good σ R rk B) {n : Int} (hn : σ n = none) (c m mm : Nat) (q : AV) (hmm : mm ≠ c ∧ mm ≠ m) :
    ∀ (K : Nat) (t : Tm) (M : List Int) (st : Store), SubAt st c m q σ → st mm = some (.map (metOf M)) → (∀ w ∈ t.vl, rk w < K) → (∀ v ∈ M, n ∉ (R v).vl ∨ ∀ w ∈ t.vl, rk w < rk v) →
    ACalls prog 170 [.ptr c 0, .int .i64 n, t.av, .map mm] st (Occ R n t st mm M)
  | K, .mk k x s ts, M, st, hS, hM, hK, hpre => by
    have IH1 := fun (K' : Nat) (hK' : K' < K) t M st => c_occurs G hn c m mm q hmm K' t M st
    have IH2 := fun (y : Tm) (hy : y ∈ ts) M st => c_occurs G hn c m mm q hmm K y M st
    have hlk := look_met (P := prog) (n := x) hM underlying194 underlying3 zV_4
    simp only [Tm.av_mk]
    refine acalls_fit [1000000] func170 ntmps170 rfl rfl (by kernel_rfl) (by decide +kernel) (by show 4 ≤ _; decide +kernel) ?_
    intro _
    simp -implicitDefEqProofs only [hlk, evb0, evb1, evb2, evb3, evb4, evb5, evb6, evb7, evb8, evb9, ↓evZ2, ↓evZ3, ↓Int.cast_ofNat_Int, implies_true, ne_eq, or_false, false_or, or_self, gt_iff_lt, isMut, aFn, List.contains, List.elem, aBox, aField, aLoad, sub, aNil, aPick, aExt, aFld, gd, noJunk, plainOp, aBuildSlice, aBuild, aFill, aParts, seqParts, fitAll, List.range', ↓reduceIte, reduceCtorEq, Nat.reduceEqDiff, Nat.reduceAdd, Nat.reduceLeDiff, Nat.reduceMul, Nat.reduceLT, Nat.reduceBEq, Int.reduceEq, tf_S2_170]
    refine cond_split (fun h => ?_) (fun h => ?_)
    · simp only [decide_eq_true_eq] at h
      have hvl : (Tm.mk k x s ts).vl = [x] := Tm.vl_var h
      have hmv : (Tm.mk k x s ts).mapv R = R x := Tm.mapv_var R h
      have hKx : rk x < K := hK x (by rw [hvl]; simp)
      simp -implicitDefEqProofs only [hlk, evb0, evb1, evb2, evb3, evb4, evb5, evb6, evb7, evb8, evb9, ↓evZ2, ↓evZ3, ↓Int.cast_ofNat_Int, implies_true, ne_eq, or_false, false_or, or_self, gt_iff_lt, isMut, aFn, List.contains, List.elem, aBox, aField, aLoad, sub, aNil, aPick, aExt, aFld, gd, noJunk, plainOp, aBuildSlice, aBuild, aFill, aParts, seqParts, fitAll, List.range', ↓reduceIte, reduceCtorEq, Nat.reduceEqDiff, Nat.reduceAdd, Nat.reduceLeDiff, Nat.reduceMul, Nat.reduceLT, Nat.reduceBEq, Int.reduceEq, tf_S2_170]
      refine cond_split (fun h2 => ?_) (fun h2 => ?_)
      · simp only [decide_eq_true_eq] at h2
        simp -implicitDefEqProofs only [hlk, evb0, evb1, evb2, evb3, evb4, evb5, evb6, evb7, evb8, evb9, ↓evZ2, ↓evZ3, ↓Int.cast_ofNat_Int, implies_true, ne_eq, or_false, false_or, or_self, gt_iff_lt, isMut, aFn, List.contains, List.elem, aBox, aField, aLoad, sub, aNil, aPick, aExt, aFld, gd, noJunk, plainOp, aBuildSlice, aBuild, aFill, aParts, seqParts, fitAll, List.range', ↓reduceIte, reduceCtorEq, Nat.reduceEqDiff, Nat.reduceAdd, Nat.reduceLeDiff, Nat.reduceMul, Nat.reduceLT, Nat.reduceBEq, Int.reduceEq, tf_S2_170]
        have hno : n ∉ (R x).vl := by
          rcases hpre x h2 with h | h
          · exact h
          · exact absurd (h x (by rw [hvl]; simp)) (Nat.lt_irrefl _)
        refine ⟨by rw [hmv]; simp [hno], M, ?_, fun _ v hv => .inl hv⟩
        funext y
        simp only [Store.upd]
        split
        · rename_i e; rw [e, hM]
        · rfl
      · simp only [decide_eq_false_iff_not] at h2
        simp -implicitDefEqProofs only [hlk, evb0, evb1, evb2, evb3, evb4, evb5, evb6, evb7, evb8, evb9, ↓evZ2, ↓evZ3, ↓Int.cast_ofNat_Int, implies_true, ne_eq, or_false, false_or, or_self, gt_iff_lt, isMut, aFn, List.contains, List.elem, aBox, aField, aLoad, sub, aNil, aPick, aExt, aFld, gd, noJunk, plainOp, aBuildSlice, aBuild, aFill, aParts, seqParts, fitAll, List.range', ↓reduceIte, reduceCtorEq, Nat.reduceEqDiff, Nat.reduceAdd, Nat.reduceLeDiff, Nat.reduceMul, Nat.reduceLT, Nat.reduceBEq, Int.reduceEq, tf_S2_170]
        refine upd_met hM underlying194 underlying3 ?_
        simp -implicitDefEqProofs only [hlk, evb0, evb1, evb2, evb3, evb4, evb5, evb6, evb7, evb8, evb9, ↓evZ2, ↓evZ3, ↓Int.cast_ofNat_Int, implies_true, ne_eq, or_false, false_or, or_self, gt_iff_lt, isMut, aFn, List.contains, List.elem, aBox, aField, aLoad, sub, aNil, aPick, aExt, aFld, gd, noJunk, plainOp, aBuildSlice, aBuild, aFill, aParts, seqParts, fitAll, List.range', ↓reduceIte, reduceCtorEq, Nat.reduceEqDiff, Nat.reduceAdd, Nat.reduceLeDiff, Nat.reduceMul, Nat.reduceLT, Nat.reduceBEq, Int.reduceEq, tf_S2_170]
        obtain ⟨f, hwk⟩ := G.wk (Tm.mk k x s ts)
        generalize hu : wk σ (Tm.mk k x s ts) = u at *
        have hS' := hS.upd2 (o := .map (metOf (x :: M))) hmm.1 hmm.2
        have hcw := c_walk hwk c m q _ hS'
        rw [Tm.av_mk] at hcw
        refine hcw.to ?_
        have hmvu : u.mapv R = R x := by rw [hwk.mapv G.isSol, hmv]
        have hend := hwk.end
        have hrk := hwk.rank G
        obtain ⟨k', x', s', ts'⟩ := u
        simp only [Tm.av_mk]
        simp -implicitDefEqProofs only [hlk, evb0, evb1, evb2, evb3, evb4, evb5, evb6, evb7, evb8, evb9, ↓evZ2, ↓evZ3, ↓Int.cast_ofNat_Int, implies_true, ne_eq, or_false, false_or, or_self, gt_iff_lt, isMut, aFn, List.contains, List.elem, aBox, aField, aLoad, sub, aNil, aPick, aExt, aFld, gd, noJunk, plainOp, aBuildSlice, aBuild, aFill, aParts, seqParts, fitAll, List.range', ↓reduceIte, reduceCtorEq, Nat.reduceEqDiff, Nat.reduceAdd, Nat.reduceLeDiff, Nat.reduceMul, Nat.reduceLT, Nat.reduceBEq, Int.reduceEq, tf_S2_170]
        refine cond_split (fun h3 => ?_) (fun h3 => ?_)
        · simp only [decide_eq_true_eq] at h3
          simp -implicitDefEqProofs only [hlk, evb0, evb1, evb2, evb3, evb4, evb5, evb6, evb7, evb8, evb9, ↓evZ2, ↓evZ3, ↓Int.cast_ofNat_Int, implies_true, ne_eq, or_false, false_or, or_self, gt_iff_lt, isMut, aFn, List.contains, List.elem, aBox, aField, aLoad, sub, aNil, aPick, aExt, aFld, gd, noJunk, plainOp, aBuildSlice, aBuild, aFill, aParts, seqParts, fitAll, List.range', ↓reduceIte, reduceCtorEq, Nat.reduceEqDiff, Nat.reduceAdd, Nat.reduceLeDiff, Nat.reduceMul, Nat.reduceLT, Nat.reduceBEq, Int.reduceEq, tf_S2_170]
          have hfree : R x' = vr x' := G.free (hend h3)
          rw [Tm.mapv_var R h3, hfree] at hmvu
          refine ⟨?_, x :: M, rfl, fun hno v hv => ?_⟩
          · rw [hmv, ← hmvu, vl_vr]
            simp [eq_comm]
          · rcases List.mem_cons.1 hv with rfl | hv
            · exact .inr (by rw [hmv] at hno; exact hno)
            · exact .inl hv
        · simp only [decide_eq_false_iff_not] at h3
          simp -implicitDefEqProofs only [hlk, evb0, evb1, evb2, evb3, evb4, evb5, evb6, evb7, evb8, evb9, ↓evZ2, ↓evZ3, ↓Int.cast_ofNat_Int, implies_true, ne_eq, or_false, false_or, or_self, gt_iff_lt, isMut, aFn, List.contains, List.elem, aBox, aField, aLoad, sub, aNil, aPick, aExt, aFld, gd, noJunk, plainOp, aBuildSlice, aBuild, aFill, aParts, seqParts, fitAll, List.range', ↓reduceIte, reduceCtorEq, Nat.reduceEqDiff, Nat.reduceAdd, Nat.reduceLeDiff, Nat.reduceMul, Nat.reduceLT, Nat.reduceBEq, Int.reduceEq, tf_S2_170]
          have hf0 : f ≠ 0 := by
            rintro rfl
            cases hwk with
            | stop _ => exact h3 h
          have hr' : ∀ w ∈ (Tm.mk k' x' s' ts').vl, rk w < rk x := fun w hw => by
            obtain ⟨v, hv, _, hlt⟩ := hrk w hw
            rw [hvl] at hv
            simp only [List.mem_cons, List.not_mem_nil, or_false] at hv
            subst hv
            exact hlt hf0
          have := IH1 (rk x) hKx (Tm.mk k' x' s' ts') (x :: M) _ hS' (Store.upd_same _ _ _) hr' (fun v hv => by
            rcases List.mem_cons.1 hv with rfl | hv
            · exact .inr hr'
            · rcases hpre v hv with h5 | h5
              · exact .inl h5
              · refine .inr fun w hw => Nat.lt_trans (hr' w hw) ?_
                exact h5 x (by rw [hvl]; simp))
          rw [Tm.av_mk] at this
          refine this.mono ?_
          rintro _ _ ⟨rfl, M', rfl, hM'⟩
          simp -implicitDefEqProofs only [hlk, evb0, evb1, evb2, evb3, evb4, evb5, evb6, evb7, evb8, evb9, ↓evZ2, ↓evZ3, ↓Int.cast_ofNat_Int, implies_true, ne_eq, or_false, false_or, or_self, gt_iff_lt, isMut, aFn, List.contains, List.elem, aBox, aField, aLoad, sub, aNil, aPick, aExt, aFld, gd, noJunk, plainOp, aBuildSlice, aBuild, aFill, aParts, seqParts, fitAll, List.range', ↓reduceIte, reduceCtorEq, Nat.reduceEqDiff, Nat.reduceAdd, Nat.reduceLeDiff, Nat.reduceMul, Nat.reduceLT, Nat.reduceBEq, Int.reduceEq, tf_S2_170]
          rw [hmvu] at hM' ⊢
          refine ⟨by rw [hmv], M', rfl, fun hno v hv => ?_⟩
          rw [hmv] at hno
          rcases hM' hno v hv with h5 | h5
          · rcases List.mem_cons.1 h5 with rfl | h5
            · exact .inr hno
            · exact .inl h5
          · exact .inr h5
    · simp only [decide_eq_false_iff_not] at h
      simp -implicitDefEqProofs only [hlk, evb0, evb1, evb2, evb3, evb4, evb5, evb6, evb7, evb8, evb9, ↓evZ2, ↓evZ3, ↓Int.cast_ofNat_Int, implies_true, ne_eq, or_false, false_or, or_self, gt_iff_lt, isMut, aFn, List.contains, List.elem, aBox, aField, aLoad, sub, aNil, aPick, aExt, aFld, gd, noJunk, plainOp, aBuildSlice, aBuild, aFill, aParts, seqParts, fitAll, List.range', ↓reduceIte, reduceCtorEq, Nat.reduceEqDiff, Nat.reduceAdd, Nat.reduceLeDiff, Nat.reduceMul, Nat.reduceLT, Nat.reduceBEq, Int.reduceEq, tf_S2_170]
      have hmv := Tm.mapv_mk R (n := x) (s := s) (ts := ts) h
      have hany : ts.any (fun y => decide (n ∈ (y.mapv R).vl)) = decide (n ∈ ((Tm.mk k x s ts).mapv R).vl) := by
        rw [hmv, Bool.eq_iff_iff]
        simp only [List.any_eq_true, decide_eq_true_eq]
        rw [Tm.vl_mk h]
        constructor
        · rintro ⟨y, hy, h2⟩; exact ⟨_, List.mem_map.2 ⟨y, hy, rfl⟩, h2⟩
        · rintro ⟨z, hz, h2⟩
          obtain ⟨y, hy, rfl⟩ := List.mem_map.1 hz
          exact ⟨y, hy, h2⟩
      refine (c_ContainsFuncTmS ts _ _ (fun y => decide (n ∈ (y.mapv R).vl)) (fun s1 => ∃ M', s1 = st.upd mm (.map (metOf M')) ∧ ∀ v ∈ M', v ∈ M ∨ n ∉ (R v).vl) (fun s1 => ∃ M', s1 = st.upd mm (.map (metOf M'))) ?_ st ⟨M, ?_, fun v hv => .inl hv⟩).mono ?_
      · rintro y hy s1 ⟨M', rfl, hM'⟩
        simp only [List.cons_append, List.nil_append]
        have hc := IH2 y hy M' (st.upd mm (.map (metOf M'))) (hS.upd2 hmm.1 hmm.2) (Store.upd_same _ _ _) (fun w hw => hK w ((Tm.vl_mk h).2 ⟨y, hy, hw⟩)) (fun v hv => by
          rcases hM' v hv with h5 | h5
          · rcases hpre v h5 with h6 | h6
            · exact .inl h6
            · exact .inr fun w hw => h6 w ((Tm.vl_mk h).2 ⟨y, hy, hw⟩)
          · exact .inl h5)
        refine (c_occurs_1 hc).mono ?_
        rintro _ _ ⟨rfl, M2, rfl, hM2⟩
        rw [Store.upd_upd]
        refine ⟨rfl, fun _ => ⟨M2, rfl⟩, fun hno => ⟨M2, rfl, fun v hv => ?_⟩⟩
        simp only [decide_eq_false_iff_not] at hno
        rcases hM2 hno v hv with h5 | h5
        · exact hM' v h5
        · exact .inr h5
      · funext y
        simp only [Store.upd]
        split
        · rename_i e; rw [e, hM]
        · rfl
      · rintro _ s2 ⟨rfl, hE, hJ⟩
        rw [hany] at hE hJ ⊢
        simp -implicitDefEqProofs only [hlk, evb0, evb1, evb2, evb3, evb4, evb5, evb6, evb7, evb8, evb9, ↓evZ2, ↓evZ3, ↓Int.cast_ofNat_Int, implies_true, ne_eq, or_false, false_or, or_self, gt_iff_lt, isMut, aFn, List.contains, List.elem, aBox, aField, aLoad, sub, aNil, aPick, aExt, aFld, gd, noJunk, plainOp, aBuildSlice, aBuild, aFill, aParts, seqParts, fitAll, List.range', ↓reduceIte, reduceCtorEq, Nat.reduceEqDiff, Nat.reduceAdd, Nat.reduceLeDiff, Nat.reduceMul, Nat.reduceLT, Nat.reduceBEq, Int.reduceEq, tf_S2_170]
        by_cases hno : n ∈ ((Tm.mk k x s ts).mapv R).vl
        · obtain ⟨M2, rfl⟩ := hE (by simp [hno])
          exact ⟨rfl, M2, rfl, fun h => absurd hno h⟩
        · obtain ⟨M2, rfl, h5⟩ := hJ (by simp [hno])
          exact ⟨rfl, M2, rfl, fun _ => h5⟩
termination_by K t => (K, SizeOf.sizeOf t)
decreasing_by
  · exact Prod.Lex.left _ _ hK'
  · have := List.sizeOf_lt_of_mem hy
    exact Prod.Lex.right _ (by simp only [Tm.mk.sizeOf_spec]; omega)
end Go.AW


/- The program's store of bindings: a binding, unification. -/
namespace Go.AW
open Go.Proofs.Try
set_option linter.unusedSimpArgs false
set_option maxRecDepth 100000

theorem tf_S3_123 : (type_of% tI_2) ∧ (type_of% zI_2) ∧ (type_of% Go.Proofs.Try.underlying2) ∧ (type_of% tI_3) ∧ (type_of% zI_3) ∧ (type_of% Go.Proofs.Try.underlying3) ∧ (type_of% tI_4) ∧ (type_of% zI_4) ∧ (type_of% Go.Proofs.Try.underlying4) ∧ (type_of% tI_5) ∧ (type_of% zI_5) ∧ (type_of% Go.Proofs.Try.underlying5) ∧ (type_of% tI_7) ∧ (type_of% zI_7) ∧ (type_of% fI_7_0) ∧ (type_of% fI_7_1) ∧ (type_of% fI_7_2) ∧ (type_of% fI_7_3) ∧ (type_of% bI_7) ∧ (type_of% tI_8) ∧ (type_of% zI_8) ∧ (type_of% fI_8_0) ∧ (type_of% fI_8_1) ∧ (type_of% fI_8_2) ∧ (type_of% fI_8_3) ∧ (type_of% bI_8) ∧ (type_of% tI_9) ∧ (type_of% zI_9) ∧ (type_of% Go.Proofs.Try.underlying9) ∧ (type_of% tI_10) ∧ (type_of% zI_10) ∧ (type_of% Go.Proofs.Try.underlying10) ∧ (type_of% tI_11) ∧ (type_of% zI_11) ∧ (type_of% Go.Proofs.Try.underlying11) ∧ (type_of% tI_22) ∧ (type_of% zI_22) ∧ (type_of% eI_22) ∧ (type_of% eB_22) ∧ (type_of% eZ_22) ∧ (type_of% Go.Proofs.Try.underlying22) ∧ (type_of% tI_24) ∧ (type_of% zI_24) ∧ (type_of% fI_24_0) ∧ (type_of% bI_24) ∧ (type_of% tI_41) ∧ (type_of% zI_41) ∧ (type_of% fI_41_0) ∧ (type_of% fI_41_1) ∧ (type_of% fI_41_2) ∧ (type_of% fI_41_3) ∧ (type_of% bI_41) ∧ (type_of% tI_58) ∧ (type_of% zI_58) ∧ (type_of% fI_58_0) ∧ (type_of% fI_58_1) ∧ (type_of% bI_58) ∧ (type_of% tI_62) ∧ (type_of% zI_62) ∧ (type_of% eI_62) ∧ (type_of% eB_62) ∧ (type_of% eZ_62) ∧ (type_of% Go.Proofs.Try.underlying62) ∧ (type_of% tI_93) ∧ (type_of% zI_93) ∧ (type_of% eI_93) ∧ (type_of% eB_93) ∧ (type_of% eZ_93) ∧ (type_of% Go.Proofs.Try.underlying93) ∧ (type_of% tI_102) ∧ (type_of% zI_102) ∧ (type_of% tI_147) ∧ (type_of% zI_147) ∧ (type_of% Go.Proofs.Try.underlying147) ∧ (type_of% tI_157) ∧ (type_of% zI_157) ∧ (type_of% fI_157_0) ∧ (type_of% fI_157_1) ∧ (type_of% bI_157) ∧ (type_of% tI_170) ∧ (type_of% zI_170) ∧ (type_of% fI_170_0) ∧ (type_of% fI_170_1) ∧ (type_of% fI_170_2) ∧ (type_of% fI_170_3) ∧ (type_of% fI_170_4) ∧ (type_of% fI_170_5) ∧ (type_of% bI_170) ∧ (type_of% tI_194) ∧ (type_of% zI_194) ∧ (type_of% Go.Proofs.Try.underlying194) := ⟨tI_2, zI_2, Go.Proofs.Try.underlying2, tI_3, zI_3, Go.Proofs.Try.underlying3, tI_4, zI_4, Go.Proofs.Try.underlying4, tI_5, zI_5, Go.Proofs.Try.underlying5, tI_7, zI_7, fI_7_0, fI_7_1, fI_7_2, fI_7_3, bI_7, tI_8, zI_8, fI_8_0, fI_8_1, fI_8_2, fI_8_3, bI_8, tI_9, zI_9, Go.Proofs.Try.underlying9, tI_10, zI_10, Go.Proofs.Try.underlying10, tI_11, zI_11, Go.Proofs.Try.underlying11, tI_22, zI_22, eI_22, eB_22, eZ_22, Go.Proofs.Try.underlying22, tI_24, zI_24, fI_24_0, bI_24, tI_41, zI_41, fI_41_0, fI_41_1, fI_41_2, fI_41_3, bI_41, tI_58, zI_58, fI_58_0, fI_58_1, bI_58, tI_62, zI_62, eI_62, eB_62, eZ_62, Go.Proofs.Try.underlying62, tI_93, zI_93, eI_93, eB_93, eZ_93, Go.Proofs.Try.underlying93, tI_102, zI_102, tI_147, zI_147, Go.Proofs.Try.underlying147, tI_157, zI_157, fI_157_0, fI_157_1, bI_157, tI_170, zI_170, fI_170_0, fI_170_1, fI_170_2, fI_170_3, fI_170_4, fI_170_5, bI_170, tI_194, zI_194, Go.Proofs.Try.underlying194⟩
theorem c_bind {σ : Sub} (hg : IsGood σ) {n : Int} (hn : σ n = none) {t : Tm} {r : Bool} {σ' : Sub} {add : List Int} (hb : bnd σ n t = (r, σ', add)) (c m : Nat) (q : AV) (tr : List Int) (st : Store) (hS : Sto st c m q σ tr) (hl : tr.length + add.length ≤ 1099511627776) :
    ACalls prog 123 [.ptr c 0, .int .i64 n, t.av] st (fun r' st' => r' = .bool r ∧ Post c m st q σ' (tr ++ add) st') := by
  obtain ⟨rk, B, G⟩ := hg.rs
  refine acalls_fit [1000000] func123 ntmps123 rfl rfl (by kernel_rfl) (by decide +kernel) (by show 3 ≤ _; decide +kernel) ?_
  intro _
  simp -implicitDefEqProofs only [evb0, evb1, evb2, evb3, evb4, evb5, evb6, evb7, evb8, evb9, ↓evZ2, ↓evZ3, ↓Int.cast_ofNat_Int, implies_true, ne_eq, or_false, false_or, or_self, gt_iff_lt, isMut, aFn, List.contains, List.elem, aBox, aField, aLoad, sub, aNil, aPick, aExt, aFld, gd, noJunk, plainOp, aBuildSlice, aBuild, aFill, aParts, seqParts, fitAll, List.range', ↓reduceIte, reduceCtorEq, Nat.reduceEqDiff, Nat.reduceAdd, Nat.reduceLeDiff, Nat.reduceMul, Nat.reduceLT, Nat.reduceBEq, Int.reduceEq, tf_S3_123]
  intro mm hmm
  obtain ⟨hmc, hmm'⟩ := hS.sub.ne hmm
  rw [← metOf_nil]
  have hS1 := hS.upd0 (o := .map (metOf [])) hmm
  refine (c_occurs G hn c m mm q ⟨hmc, hmm'⟩ B t [] _ hS1.sub (Store.upd_same _ _ _) (fun w _ => G.bd w) (fun v hv => absurd hv (List.not_mem_nil))).mono ?_
  rintro _ _ ⟨rfl, M', rfl, _⟩
  have hS2 := hS.upd0 (o := .map (metOf M')) hmm
  have hQ2 : StepQ c m st q (st.upd mm (.map (metOf M'))) q := StepQ.upd0 hmm
  rw [Store.upd_upd]
  generalize st.upd mm (.map (metOf M')) = s2 at *
  obtain ⟨hqa, hqw, hqj, hqc, hqs⟩ := hS2.shape
  simp -implicitDefEqProofs only [setCells, hS2.sub.cells, hqa, hqw, hqj, hqs, evb0, evb1, evb2, evb3, evb4, evb5, evb6, evb7, evb8, evb9, ↓evZ2, ↓evZ3, ↓Int.cast_ofNat_Int, implies_true, ne_eq, or_false, false_or, or_self, gt_iff_lt, isMut, aFn, List.contains, List.elem, aBox, aField, aLoad, sub, aNil, aPick, aExt, aFld, gd, noJunk, plainOp, aBuildSlice, aBuild, aFill, aParts, seqParts, fitAll, List.range', ↓reduceIte, reduceCtorEq, Nat.reduceEqDiff, Nat.reduceAdd, Nat.reduceLeDiff, Nat.reduceMul, Nat.reduceLT, Nat.reduceBEq, Int.reduceEq, tf_S3_123]
  unfold bnd at hb
  refine cond_split (fun h => ?_) (fun h => ?_)
  · simp only [decide_eq_true_eq] at h
    rw [if_pos h] at hb
    obtain ⟨rfl, rfl, rfl⟩ : false = r ∧ σ = σ' ∧ [] = add := by simpa using hb
    simp -implicitDefEqProofs only [setCells, hS2.sub.cells, hqa, hqw, hqj, hqs, evb0, evb1, evb2, evb3, evb4, evb5, evb6, evb7, evb8, evb9, ↓evZ2, ↓evZ3, ↓Int.cast_ofNat_Int, implies_true, ne_eq, or_false, false_or, or_self, gt_iff_lt, isMut, aFn, List.contains, List.elem, aBox, aField, aLoad, sub, aNil, aPick, aExt, aFld, gd, noJunk, plainOp, aBuildSlice, aBuild, aFill, aParts, seqParts, fitAll, List.range', ↓reduceIte, reduceCtorEq, Nat.reduceEqDiff, Nat.reduceAdd, Nat.reduceLeDiff, Nat.reduceMul, Nat.reduceLT, Nat.reduceBEq, Int.reduceEq, tf_S3_123]
    exact ⟨q, hS2, hQ2⟩
  · simp only [decide_eq_false_iff_not] at h
    rw [if_neg h] at hb
    obtain ⟨rfl, rfl, rfl⟩ : true = r ∧ σ.set n t = σ' ∧ [n] = add := by simpa using hb
    simp -implicitDefEqProofs only [setCells, hS2.sub.cells, hqa, hqw, hqj, hqs, evb0, evb1, evb2, evb3, evb4, evb5, evb6, evb7, evb8, evb9, ↓evZ2, ↓evZ3, ↓Int.cast_ofNat_Int, implies_true, ne_eq, or_false, false_or, or_self, gt_iff_lt, isMut, aFn, List.contains, List.elem, aBox, aField, aLoad, sub, aNil, aPick, aExt, aFld, gd, noJunk, plainOp, aBuildSlice, aBuild, aFill, aParts, seqParts, fitAll, List.range', ↓reduceIte, reduceCtorEq, Nat.reduceEqDiff, Nat.reduceAdd, Nat.reduceLeDiff, Nat.reduceMul, Nat.reduceLT, Nat.reduceBEq, Int.reduceEq, tf_S3_123]
    refine arun_plan [(0, 1), (1, 1), (2, 1), (4, 1), (3, 2), (5, 2), (6, 0)] [0, 1, 2, 4, 3, 5] mixed (by decide +kernel) (by decide +kernel) (by decide +kernel) ?_
    simp -implicitDefEqProofs only [setCells, hS2.sub.cells, hqa, hqw, hqj, hqs, evb0, evb1, evb2, evb3, evb4, evb5, evb6, evb7, evb8, evb9, ↓evZ2, ↓evZ3, ↓Int.cast_ofNat_Int, implies_true, ne_eq, or_false, false_or, or_self, gt_iff_lt, isMut, aFn, List.contains, List.elem, aBox, aField, aLoad, sub, aNil, aPick, aExt, aFld, gd, noJunk, plainOp, aBuildSlice, aBuild, aFill, aParts, seqParts, fitAll, List.range', ↓reduceIte, reduceCtorEq, Nat.reduceEqDiff, Nat.reduceAdd, Nat.reduceLeDiff, Nat.reduceMul, Nat.reduceLT, Nat.reduceBEq, Int.reduceEq, tf_S3_123]
    refine upd_sub hS2.sub.map underlying147 underlying3 ?_
    have hcm := hS2.sub.cm
    have hS3 : Sto (s2.upd m (.map (mapOf (σ.set n t)))) c m q (σ.set n t) tr := by
      refine ⟨⟨by rw [Store.upd_ne _ _ hcm]; exact hS2.sub.cells, Store.upd_same _ _ _⟩, ?_, hS2.apart⟩
      rcases hS2.trail with h4 | ⟨b', cs, e1, e2, e3⟩
      · exact .inl h4
      · refine .inr ⟨b', cs, e1, ?_, e3⟩
        rw [Store.upd_ne _ _ (by rintro rfl; exact hS2.m_apart (by rw [e1]; simp [tbk]))]
        exact e2
    have hQ3 : StepQ c m st q (s2.upd m (.map (mapOf (σ.set n t)))) q := ⟨fun b o h h1 h2 h3 => by rw [Store.upd_ne _ _ h2]; exact hQ2.frame b o h h1 h2 h3, fun _ h => .inl h⟩
    generalize s2.upd m (.map (mapOf (σ.set n t))) = s3 at *
    simp -implicitDefEqProofs only [setCells, hS3.sub.cells, hqa, hqw, hqj, hqs, evb0, evb1, evb2, evb3, evb4, evb5, evb6, evb7, evb8, evb9, ↓evZ2, ↓evZ3, ↓Int.cast_ofNat_Int, implies_true, ne_eq, or_false, false_or, or_self, gt_iff_lt, isMut, aFn, List.contains, List.elem, aBox, aField, aLoad, sub, aNil, aPick, aExt, aFld, gd, noJunk, plainOp, aBuildSlice, aBuild, aFill, aParts, seqParts, fitAll, List.range', ↓reduceIte, reduceCtorEq, Nat.reduceEqDiff, Nat.reduceAdd, Nat.reduceLeDiff, Nat.reduceMul, Nat.reduceLT, Nat.reduceBEq, Int.reduceEq, tf_S3_123]
    refine trail_append eI_93 eB_93 eZ_93 rfl (by omega) hS3 (by simpa using hl) (fun q' s4 ht hc' hm' hk hf => ?_)
    have h4c : s4 c = some (.cells [.map m, q]) := by rw [hk c hS3.apart hc']; exact hS3.sub.cells
    have h4m : s4 m = some (.map (mapOf (σ.set n t))) := by rw [hk m hS3.m_apart hm']; exact hS3.sub.map
    have hqc' : q'.cells = [q'] ∧ q'.storable = true := by
      rcases ht with ⟨rfl, _⟩ | ⟨b', cs, rfl, _⟩ <;> exact ⟨rfl, rfl⟩
    simp -implicitDefEqProofs only [setCells, h4c, hqc'.1, hqc'.2, evb0, evb1, evb2, evb3, evb4, evb5, evb6, evb7, evb8, evb9, ↓evZ2, ↓evZ3, ↓Int.cast_ofNat_Int, implies_true, ne_eq, or_false, false_or, or_self, gt_iff_lt, isMut, aFn, List.contains, List.elem, aBox, aField, aLoad, sub, aNil, aPick, aExt, aFld, gd, noJunk, plainOp, aBuildSlice, aBuild, aFill, aParts, seqParts, fitAll, List.range', ↓reduceIte, reduceCtorEq, Nat.reduceEqDiff, Nat.reduceAdd, Nat.reduceLeDiff, Nat.reduceMul, Nat.reduceLT, Nat.reduceBEq, Int.reduceEq, tf_S3_123]
    refine ⟨q', ⟨⟨Store.upd_same _ _ _, by rw [Store.upd_ne _ _ (Ne.symm hcm)]; exact h4m⟩, ?_, hc'⟩, ⟨fun b o h h1 h2 h3 => ?_, fun b hb => ?_⟩⟩
    · rcases ht with h4 | ⟨b', cs, e1, e2, e3⟩
      · exact .inl h4
      · refine .inr ⟨b', cs, e1, ?_, e3⟩
        rw [Store.upd_ne _ _ (by rintro rfl; exact hc' (by rw [e1]; simp [tbk]))]
        exact e2
    · rw [Store.upd_ne _ _ h1, hk b h3 (fun h4 => ?_)]
      · exact hQ3.frame b o h h1 h2 h3
      · rcases hf b h4 with h5 | h5
        · exact h3 h5
        · rw [hQ3.frame b o h h1 h2 h3] at h5; cases h5
    · rcases hf b hb with h5 | h5
      · exact .inl h5
      · by_cases h6 : b ∈ tbk q
        · exact .inl h6
        · refine .inr ?_
          cases hst : st b with
          | none => rfl
          | some o =>
            exfalso
            have h1 : b ≠ c := by rintro rfl; rw [hS3.sub.cells] at h5; cases h5
            have h2 : b ≠ m := by rintro rfl; rw [hS3.sub.map] at h5; cases h5
            rw [hQ3.frame b o hst h1 h2 h6] at h5; cases h5
end Go.AW


/- The program's store of bindings: unification. -/
namespace Go.AW
open Go.Proofs.Try
set_option linter.unusedSimpArgs false
set_option maxRecDepth 100000

abbrev Sm (t : Tm) : Prop := t.small = true
theorem sm_kids : ∀ t : Tm, t.k ≠ 1 → Sm t → ∀ x ∈ t.ts, Sm x := fun t _ h x hx => by
  cases t
  exact (Tm.small_mk h).2 x hx

theorem tf_S4_70 : (type_of% tI_2) ∧ (type_of% zI_2) ∧ (type_of% Go.Proofs.Try.underlying2) ∧ (type_of% tI_3) ∧ (type_of% zI_3) ∧ (type_of% Go.Proofs.Try.underlying3) ∧ (type_of% tI_4) ∧ (type_of% zI_4) ∧ (type_of% Go.Proofs.Try.underlying4) ∧ (type_of% tI_5) ∧ (type_of% zI_5) ∧ (type_of% Go.Proofs.Try.underlying5) ∧ (type_of% tI_6) ∧ (type_of% zI_6) ∧ (type_of% Go.Proofs.Try.underlying6) ∧ (type_of% tI_7) ∧ (type_of% zI_7) ∧ (type_of% fI_7_0) ∧ (type_of% fI_7_1) ∧ (type_of% fI_7_2) ∧ (type_of% fI_7_3) ∧ (type_of% bI_7) ∧ (type_of% tI_8) ∧ (type_of% zI_8) ∧ (type_of% fI_8_0) ∧ (type_of% fI_8_1) ∧ (type_of% fI_8_2) ∧ (type_of% fI_8_3) ∧ (type_of% bI_8) ∧ (type_of% tI_9) ∧ (type_of% zI_9) ∧ (type_of% Go.Proofs.Try.underlying9) ∧ (type_of% tI_10) ∧ (type_of% zI_10) ∧ (type_of% Go.Proofs.Try.underlying10) ∧ (type_of% tI_11) ∧ (type_of% zI_11) ∧ (type_of% Go.Proofs.Try.underlying11) ∧ (type_of% tI_12) ∧ (type_of% zI_12) ∧ (type_of% Go.Proofs.Try.underlying12) ∧ (type_of% tI_13) ∧ (type_of% zI_13) ∧ (type_of% fI_13_0) ∧ (type_of% fI_13_1) ∧ (type_of% bI_13) ∧ (type_of% tI_14) ∧ (type_of% zI_14) ∧ (type_of% fI_14_0) ∧ (type_of% fI_14_1) ∧ (type_of% bI_14) ∧ (type_of% tI_15) ∧ (type_of% zI_15) ∧ (type_of% tI_16) ∧ (type_of% zI_16) ∧ (type_of% tI_19) ∧ (type_of% zI_19) ∧ (type_of% fI_19_0) ∧ (type_of% bI_19) ∧ (type_of% tI_27) ∧ (type_of% zI_27) ∧ (type_of% eI_27) ∧ (type_of% eB_27) ∧ (type_of% eZ_27) ∧ (type_of% Go.Proofs.Try.underlying27) ∧ (type_of% tI_41) ∧ (type_of% zI_41) ∧ (type_of% fI_41_0) ∧ (type_of% fI_41_1) ∧ (type_of% fI_41_2) ∧ (type_of% fI_41_3) ∧ (type_of% bI_41) ∧ (type_of% tI_64) ∧ (type_of% zI_64) ∧ (type_of% fI_64_0) ∧ (type_of% fI_64_1) ∧ (type_of% bI_64) ∧ (type_of% tI_71) ∧ (type_of% zI_71) ∧ (type_of% eI_71) ∧ (type_of% eB_71) ∧ (type_of% eZ_71) ∧ (type_of% Go.Proofs.Try.underlying71) ∧ (type_of% tI_73) ∧ (type_of% zI_73) ∧ (type_of% eI_73) ∧ (type_of% eB_73) ∧ (type_of% eZ_73) ∧ (type_of% Go.Proofs.Try.underlying73) ∧ (type_of% tI_74) ∧ (type_of% zI_74) ∧ (type_of% fI_74_0) ∧ (type_of% fI_74_1) ∧ (type_of% fI_74_2) ∧ (type_of% fI_74_3) ∧ (type_of% fI_74_4) ∧ (type_of% fI_74_5) ∧ (type_of% bI_74) ∧ (type_of% tI_75) ∧ (type_of% zI_75) ∧ (type_of% fI_75_0) ∧ (type_of% fI_75_1) ∧ (type_of% fI_75_2) ∧ (type_of% fI_75_3) ∧ (type_of% fI_75_4) ∧ (type_of% fI_75_5) ∧ (type_of% bI_75) ∧ (type_of% tI_93) ∧ (type_of% zI_93) ∧ (type_of% eI_93) ∧ (type_of% eB_93) ∧ (type_of% eZ_93) ∧ (type_of% Go.Proofs.Try.underlying93) ∧ (type_of% tI_102) ∧ (type_of% zI_102) := ⟨tI_2, zI_2, Go.Proofs.Try.underlying2, tI_3, zI_3, Go.Proofs.Try.underlying3, tI_4, zI_4, Go.Proofs.Try.underlying4, tI_5, zI_5, Go.Proofs.Try.underlying5, tI_6, zI_6, Go.Proofs.Try.underlying6, tI_7, zI_7, fI_7_0, fI_7_1, fI_7_2, fI_7_3, bI_7, tI_8, zI_8, fI_8_0, fI_8_1, fI_8_2, fI_8_3, bI_8, tI_9, zI_9, Go.Proofs.Try.underlying9, tI_10, zI_10, Go.Proofs.Try.underlying10, tI_11, zI_11, Go.Proofs.Try.underlying11, tI_12, zI_12, Go.Proofs.Try.underlying12, tI_13, zI_13, fI_13_0, fI_13_1, bI_13, tI_14, zI_14, fI_14_0, fI_14_1, bI_14, tI_15, zI_15, tI_16, zI_16, tI_19, zI_19, fI_19_0, bI_19, tI_27, zI_27, eI_27, eB_27, eZ_27, Go.Proofs.Try.underlying27, tI_41, zI_41, fI_41_0, fI_41_1, fI_41_2, fI_41_3, bI_41, tI_64, zI_64, fI_64_0, fI_64_1, bI_64, tI_71, zI_71, eI_71, eB_71, eZ_71, Go.Proofs.Try.underlying71, tI_73, zI_73, eI_73, eB_73, eZ_73, Go.Proofs.Try.underlying73, tI_74, zI_74, fI_74_0, fI_74_1, fI_74_2, fI_74_3, fI_74_4, fI_74_5, bI_74, tI_75, zI_75, fI_75_0, fI_75_1, fI_75_2, fI_75_3, fI_75_4, fI_75_5, bI_75, tI_93, zI_93, eI_93, eB_93, eZ_93, Go.Proofs.Try.underlying93, tI_102, zI_102⟩
theorem c_unify : ∀ (g : Nat) (σ : Sub) (a b : Tm) (r : Bool) (σ' : Sub) (add : List Int), IsGood σ → AllS Sm σ → Sm a → Sm b → uniF g σ a b = some (r, σ', add) → ∀ (c m : Nat) (q : AV) (tr : List Int) (st : Store), Sto st c m q σ tr → tr.length + add.length ≤ 1099511627776 →
    ACalls prog 70 [.ptr c 0, a.av, b.av] st (fun r' st' => r' = .bool r ∧ Post c m st q σ' (tr ++ add) st')
  | 0, σ, a, b, r, σ', add, hg, hsm, ha0, hb0, h, c, m, q, tr, st, hS, hl => by simp only [uniF] at h; cases h
  | g + 1, σ, a, b, r, σ', add, hg, hsm, ha0, hb0, h, c, m, q, tr, st, hS, hl => by
    have IH := c_unify g
    obtain ⟨rk, B, G⟩ := hg.rs
    obtain ⟨fa, wa⟩ := G.wk a
    obtain ⟨fb, wb⟩ := G.wk b
    have hca := fun st (hS : SubAt st c m q σ) => c_walk wa c m q st hS
    have hcb := fun st (hS : SubAt st c m q σ) => c_walk wb c m q st hS
    have ea := wa.end
    have eb := wb.end
    have hsa := wa.all (p := Sm) hsm ha0
    have hsb := wb.all (p := Sm) hsm hb0
    replace h := uniF_cases h
    generalize wk σ a = a1 at *
    generalize wk σ b = b1 at *
    clear wa wb
    refine acalls_fit [1000000, 4, 5] func70 ntmps70 rfl rfl (by kernel_rfl) (by decide +kernel) (by show 3 ≤ _; decide +kernel) ?_
    intro hfit
    simp -implicitDefEqProofs only [setCells, evb0, evb1, evb2, evb3, evb4, evb5, evb6, evb7, evb8, evb9, ↓evZ2, ↓evZ3, ↓Int.cast_ofNat_Int, implies_true, ne_eq, or_false, false_or, or_self, gt_iff_lt, isMut, aFn, List.contains, List.elem, aBox, aField, aLoad, sub, aNil, aPick, aExt, aFld, gd, noJunk, plainOp, aBuildSlice, aBuild, aFill, aParts, seqParts, fitAll, List.range', ↓reduceIte, reduceCtorEq, Nat.reduceEqDiff, Nat.reduceAdd, Nat.reduceLeDiff, Nat.reduceMul, Nat.reduceLT, Nat.reduceBEq, Int.reduceEq, tf_S4_70]
    intro b4 h4 b5 h5
    have h54 : b5 ≠ b4 := by rintro rfl; rw [Store.upd_same] at h5; cases h5
    have hn5 : st b5 = none := by rw [Store.upd_ne st _ h54] at h5; exact h5
    have hS' : ∀ o o', Sto ((st.upd b4 o).upd b5 o') c m q σ tr := fun o o' => (hS.upd0 h4).upd0 (by rw [Store.upd_ne _ _ h54]; exact hn5)
    refine arun_plan [(0, 1), (3, 1), (1, 2), (2, 2), (4, 2), (5, 2), (6, 0), (7, 0)] [0, 3, 1, 2, 4, 5] mixed (by decide +kernel) (by decide +kernel) (by decide +kernel) ?_
    simp -implicitDefEqProofs only [setCells, h54, h54.symm, evb0, evb1, evb2, evb3, evb4, evb5, evb6, evb7, evb8, evb9, ↓evZ2, ↓evZ3, ↓Int.cast_ofNat_Int, implies_true, ne_eq, or_false, false_or, or_self, gt_iff_lt, isMut, aFn, List.contains, List.elem, aBox, aField, aLoad, sub, aNil, aPick, aExt, aFld, gd, noJunk, plainOp, aBuildSlice, aBuild, aFill, aParts, seqParts, fitAll, List.range', ↓reduceIte, reduceCtorEq, Nat.reduceEqDiff, Nat.reduceAdd, Nat.reduceLeDiff, Nat.reduceMul, Nat.reduceLT, Nat.reduceBEq, Int.reduceEq, tf_S4_70]
    refine callH_mk (hca _ (hS' _ _).sub) ?_
    simp -implicitDefEqProofs only [setCells, h54, h54.symm, evb0, evb1, evb2, evb3, evb4, evb5, evb6, evb7, evb8, evb9, ↓evZ2, ↓evZ3, ↓Int.cast_ofNat_Int, implies_true, ne_eq, or_false, false_or, or_self, gt_iff_lt, isMut, aFn, List.contains, List.elem, aBox, aField, aLoad, sub, aNil, aPick, aExt, aFld, gd, noJunk, plainOp, aBuildSlice, aBuild, aFill, aParts, seqParts, fitAll, List.range', ↓reduceIte, reduceCtorEq, Nat.reduceEqDiff, Nat.reduceAdd, Nat.reduceLeDiff, Nat.reduceMul, Nat.reduceLT, Nat.reduceBEq, Int.reduceEq, tf_S4_70]
    refine callH_mk (hcb _ (hS' _ _).sub) ?_
    obtain ⟨ka, na, sa, tsa⟩ := a1
    obtain ⟨kb, nb, sb', tsb⟩ := b1
    obtain ⟨hla, hlas⟩ := Tm.small_mk hsa
    obtain ⟨hlb, hlbs⟩ := Tm.small_mk hsb
    simp only [Tm.av_mk]
    simp only [Tm.k, Tm.n, Tm.s, Tm.ts] at h ea eb
    have hl4 : ∀ q', q' = q → b4 ∉ tbk q := fun _ _ hb => by obtain ⟨cs, e⟩ := hS.tb_some b4 hb; rw [h4] at e; cases e
    have hl5 : b5 ∉ tbk q := fun hb => by obtain ⟨cs, e⟩ := hS.tb_some b5 hb; rw [hn5] at e; cases e
    obtain ⟨h4c, h4m⟩ := hS.sub.ne h4
    obtain ⟨h5c, h5m⟩ := hS.sub.ne hn5
    have hQ : ∀ o o', StepQ c m st q ((st.upd b4 o).upd b5 o') q := fun o o' => ⟨fun x p h _ _ _ => by
      rw [Store.upd_ne _ _ (by rintro rfl; rw [hn5] at h; cases h), Store.upd_ne _ _ (by rintro rfl; rw [h4] at h; cases h)]; exact h, fun _ h => .inl h⟩
    simp -implicitDefEqProofs only [setCells, h54, h54.symm, evb0, evb1, evb2, evb3, evb4, evb5, evb6, evb7, evb8, evb9, ↓evZ2, ↓evZ3, ↓Int.cast_ofNat_Int, implies_true, ne_eq, or_false, false_or, or_self, gt_iff_lt, isMut, aFn, List.contains, List.elem, aBox, aField, aLoad, sub, aNil, aPick, aExt, aFld, gd, noJunk, plainOp, aBuildSlice, aBuild, aFill, aParts, seqParts, fitAll, List.range', ↓reduceIte, reduceCtorEq, Nat.reduceEqDiff, Nat.reduceAdd, Nat.reduceLeDiff, Nat.reduceMul, Nat.reduceLT, Nat.reduceBEq, Int.reduceEq, tf_S4_70]
    rw [Store.upd_mid h54, Store.upd_mid h54.symm]
    have hfin : ∀ o o', Post c m st q σ tr ((st.upd b4 o).upd b5 o') := fun o o' => ⟨q, hS' _ _, hQ _ _⟩
    rcases h with ⟨h1, h2, h3, rfl, rfl, rfl⟩ | ⟨h1, h2, h3⟩ | ⟨h1, h2, h3⟩ | ⟨h1, h2, h3, h4⟩ | ⟨h1, h2, h3, rfl, rfl, rfl⟩
    · subst h1 h2 h3
      simp -implicitDefEqProofs only [decide_true, setCells, h54, h54.symm, evb0, evb1, evb2, evb3, evb4, evb5, evb6, evb7, evb8, evb9, ↓evZ2, ↓evZ3, ↓Int.cast_ofNat_Int, implies_true, ne_eq, or_false, false_or, or_self, gt_iff_lt, isMut, aFn, List.contains, List.elem, aBox, aField, aLoad, sub, aNil, aPick, aExt, aFld, gd, noJunk, plainOp, aBuildSlice, aBuild, aFill, aParts, seqParts, fitAll, List.range', ↓reduceIte, reduceCtorEq, Nat.reduceEqDiff, Nat.reduceAdd, Nat.reduceLeDiff, Nat.reduceMul, Nat.reduceLT, Nat.reduceBEq, Int.reduceEq, tf_S4_70]
      exact hfin _ _
    · subst h1
      have hcb := c_bind hg (ea rfl) h3 c m q tr _ (hS' (.cells [.int .i64 1, .int .i64 na, .str sa, .slice (tsa.map Tm.av)]) (.cells [.int .i64 kb, .int .i64 nb, .str sb', .slice (tsb.map Tm.av)])) hl
      rw [Tm.av_mk] at hcb
      by_cases h5 : kb = 1
      · subst h5
        have h6 : ¬ na = nb := fun e => h2 ⟨rfl, e⟩
        simp -implicitDefEqProofs only [decide_true, h6, decide_false, setCells, h54, h54.symm, evb0, evb1, evb2, evb3, evb4, evb5, evb6, evb7, evb8, evb9, ↓evZ2, ↓evZ3, ↓Int.cast_ofNat_Int, implies_true, ne_eq, or_false, false_or, or_self, gt_iff_lt, isMut, aFn, List.contains, List.elem, aBox, aField, aLoad, sub, aNil, aPick, aExt, aFld, gd, noJunk, plainOp, aBuildSlice, aBuild, aFill, aParts, seqParts, fitAll, List.range', ↓reduceIte, reduceCtorEq, Nat.reduceEqDiff, Nat.reduceAdd, Nat.reduceLeDiff, Nat.reduceMul, Nat.reduceLT, Nat.reduceBEq, Int.reduceEq, tf_S4_70]
        refine hcb.mono ?_
        rintro _ s2 ⟨rfl, hp⟩
        simp -implicitDefEqProofs only [setCells, h54, h54.symm, evb0, evb1, evb2, evb3, evb4, evb5, evb6, evb7, evb8, evb9, ↓evZ2, ↓evZ3, ↓Int.cast_ofNat_Int, implies_true, ne_eq, or_false, false_or, or_self, gt_iff_lt, isMut, aFn, List.contains, List.elem, aBox, aField, aLoad, sub, aNil, aPick, aExt, aFld, gd, noJunk, plainOp, aBuildSlice, aBuild, aFill, aParts, seqParts, fitAll, List.range', ↓reduceIte, reduceCtorEq, Nat.reduceEqDiff, Nat.reduceAdd, Nat.reduceLeDiff, Nat.reduceMul, Nat.reduceLT, Nat.reduceBEq, Int.reduceEq, tf_S4_70]
        exact hp.from (hQ _ _) (hS' _ _)
      · simp -implicitDefEqProofs only [decide_true, h5, decide_false, setCells, h54, h54.symm, evb0, evb1, evb2, evb3, evb4, evb5, evb6, evb7, evb8, evb9, ↓evZ2, ↓evZ3, ↓Int.cast_ofNat_Int, implies_true, ne_eq, or_false, false_or, or_self, gt_iff_lt, isMut, aFn, List.contains, List.elem, aBox, aField, aLoad, sub, aNil, aPick, aExt, aFld, gd, noJunk, plainOp, aBuildSlice, aBuild, aFill, aParts, seqParts, fitAll, List.range', ↓reduceIte, reduceCtorEq, Nat.reduceEqDiff, Nat.reduceAdd, Nat.reduceLeDiff, Nat.reduceMul, Nat.reduceLT, Nat.reduceBEq, Int.reduceEq, tf_S4_70]
        refine hcb.mono ?_
        rintro _ s2 ⟨rfl, hp⟩
        simp -implicitDefEqProofs only [setCells, h54, h54.symm, evb0, evb1, evb2, evb3, evb4, evb5, evb6, evb7, evb8, evb9, ↓evZ2, ↓evZ3, ↓Int.cast_ofNat_Int, implies_true, ne_eq, or_false, false_or, or_self, gt_iff_lt, isMut, aFn, List.contains, List.elem, aBox, aField, aLoad, sub, aNil, aPick, aExt, aFld, gd, noJunk, plainOp, aBuildSlice, aBuild, aFill, aParts, seqParts, fitAll, List.range', ↓reduceIte, reduceCtorEq, Nat.reduceEqDiff, Nat.reduceAdd, Nat.reduceLeDiff, Nat.reduceMul, Nat.reduceLT, Nat.reduceBEq, Int.reduceEq, tf_S4_70]
        exact hp.from (hQ _ _) (hS' _ _)
    · subst h2
      have hcb := c_bind hg (eb rfl) h3 c m q tr _ (hS' (.cells [.int .i64 ka, .int .i64 na, .str sa, .slice (tsa.map Tm.av)]) (.cells [.int .i64 1, .int .i64 nb, .str sb', .slice (tsb.map Tm.av)])) hl
      rw [Tm.av_mk] at hcb
      simp -implicitDefEqProofs only [decide_true, h1, decide_false, setCells, h54, h54.symm, evb0, evb1, evb2, evb3, evb4, evb5, evb6, evb7, evb8, evb9, ↓evZ2, ↓evZ3, ↓Int.cast_ofNat_Int, implies_true, ne_eq, or_false, false_or, or_self, gt_iff_lt, isMut, aFn, List.contains, List.elem, aBox, aField, aLoad, sub, aNil, aPick, aExt, aFld, gd, noJunk, plainOp, aBuildSlice, aBuild, aFill, aParts, seqParts, fitAll, List.range', ↓reduceIte, reduceCtorEq, Nat.reduceEqDiff, Nat.reduceAdd, Nat.reduceLeDiff, Nat.reduceMul, Nat.reduceLT, Nat.reduceBEq, Int.reduceEq, tf_S4_70]
      refine hcb.mono ?_
      rintro _ s2 ⟨rfl, hp⟩
      simp -implicitDefEqProofs only [setCells, h54, h54.symm, evb0, evb1, evb2, evb3, evb4, evb5, evb6, evb7, evb8, evb9, ↓evZ2, ↓evZ3, ↓Int.cast_ofNat_Int, implies_true, ne_eq, or_false, false_or, or_self, gt_iff_lt, isMut, aFn, List.contains, List.elem, aBox, aField, aLoad, sub, aNil, aPick, aExt, aFld, gd, noJunk, plainOp, aBuildSlice, aBuild, aFill, aParts, seqParts, fitAll, List.range', ↓reduceIte, reduceCtorEq, Nat.reduceEqDiff, Nat.reduceAdd, Nat.reduceLeDiff, Nat.reduceMul, Nat.reduceLT, Nat.reduceBEq, Int.reduceEq, tf_S4_70]
      exact hp.from (hQ _ _) (hS' _ _)
    · rw [headEq_iff] at h3
      simp only [Tm.k, Tm.n, Tm.s, Tm.ts] at h3
      obtain ⟨rfl, rfl, rfl, hlen⟩ := h3
      have hlen' : decide ((tsa.length : Int) = (tsb.length : Int)) = true := by simp [hlen]
      simp -implicitDefEqProofs only [decide_true, decide_false, hlen', setCells, h54, h54.symm, List.length_map, h1, evb0, evb1, evb2, evb3, evb4, evb5, evb6, evb7, evb8, evb9, ↓evZ2, ↓evZ3, ↓Int.cast_ofNat_Int, implies_true, ne_eq, or_false, false_or, or_self, gt_iff_lt, isMut, aFn, List.contains, List.elem, aBox, aField, aLoad, sub, aNil, aPick, aExt, aFld, gd, noJunk, plainOp, aBuildSlice, aBuild, aFill, aParts, seqParts, fitAll, List.range', ↓reduceIte, reduceCtorEq, Nat.reduceEqDiff, Nat.reduceAdd, Nat.reduceLeDiff, Nat.reduceMul, Nat.reduceLT, Nat.reduceBEq, Int.reduceEq, tf_S4_70]
      have hS0 := hS' (.cells [.int .i64 ka, .int .i64 na, .str sa, .slice (tsa.map Tm.av)]) (.cells [.int .i64 ka, .int .i64 na, .str sa, .slice (tsb.map Tm.av)])
      have hQ0 := hQ (.cells [.int .i64 ka, .int .i64 na, .str sa, .slice (tsa.map Tm.av)]) (.cells [.int .i64 ka, .int .i64 na, .str sa, .slice (tsb.map Tm.av)])
      have e4 : ((st.upd b4 (.cells [.int .i64 ka, .int .i64 na, .str sa, .slice (tsa.map Tm.av)])).upd b5 (.cells [.int .i64 ka, .int .i64 na, .str sa, .slice (tsb.map Tm.av)])) b4 = some (.cells [.int .i64 ka, .int .i64 na, .str sa, .slice (tsa.map Tm.av)]) := by rw [Store.upd_ne _ _ h54.symm, Store.upd_same]
      have e5 : ((st.upd b4 (.cells [.int .i64 ka, .int .i64 na, .str sa, .slice (tsa.map Tm.av)])).upd b5 (.cells [.int .i64 ka, .int .i64 na, .str sa, .slice (tsb.map Tm.av)])) b5 = some (.cells [.int .i64 ka, .int .i64 na, .str sa, .slice (tsb.map Tm.av)]) := Store.upd_same _ _ _
      generalize (st.upd b4 (.cells [.int .i64 ka, .int .i64 na, .str sa, .slice (tsa.map Tm.av)])).upd b5 (.cells [.int .i64 ka, .int .i64 na, .str sa, .slice (tsb.map Tm.av)]) = s0 at *
      refine arun_each (σ := Sub × List Int × List Int × AV × Store) [1000000, 4, 5] [0, 4, 5, 79] tsa
        (fun i p => IsGood p.1 ∧ AllS Sm p.1 ∧ Sto p.2.2.2.2 c m p.2.2.2.1 p.1 (tr ++ p.2.1) ∧ StepQ c m s0 q p.2.2.2.2 p.2.2.2.1 ∧ unisF g p.1 (tsa.drop i) (tsb.drop i) = some (r, σ', p.2.2.1) ∧ p.2.1 ++ p.2.2.1 = add)
        (fun i _ => [(6, .bool false), (80, .int .i64 i)]) (fun _ p => p.2.2.2.2) (by decide +kernel)
        ⟨(σ, [], add, q, s0), ⟨hg, hsm, by rw [List.append_nil]; exact hS0, StepQ.refl _ _ _ _, h4, rfl⟩, LessL.mk (by simp -implicitDefEqProofs only [setCells, h54, h54.symm, List.length_map, h1, evb0, evb1, evb2, evb3, evb4, evb5, evb6, evb7, evb8, evb9, ↓evZ2, ↓evZ3, ↓Int.cast_ofNat_Int, implies_true, ne_eq, or_false, false_or, or_self, gt_iff_lt, isMut, aFn, List.contains, List.elem, aBox, aField, aLoad, sub, aNil, aPick, aExt, aFld, gd, noJunk, plainOp, aBuildSlice, aBuild, aFill, aParts, seqParts, fitAll, List.range', ↓reduceIte, reduceCtorEq, Nat.reduceEqDiff, Nat.reduceAdd, Nat.reduceLeDiff, Nat.reduceMul, Nat.reduceLT, Nat.reduceBEq, Int.reduceEq, tf_S4_70])⟩ (fun i x p hx hlt hlt' hdr hinv => ?_) (fun p hge hinv => ?_)
      case refine_2 =>
        obtain ⟨σi, ai, rest, qi, si⟩ := p
        obtain ⟨i1, i2, i3, i4, i5, i6⟩ := hinv
        simp only at i1 i2 i3 i4 i5 i6
        rw [List.drop_length, hlen, List.drop_length] at i5
        simp only [unisF, Option.some.injEq, Prod.mk.injEq] at i5
        obtain ⟨rfl, rfl, rfl⟩ := i5
        rw [List.append_nil] at i6
        subst i6
        simp -implicitDefEqProofs only [hge, setCells, h54, h54.symm, List.length_map, h1, evb0, evb1, evb2, evb3, evb4, evb5, evb6, evb7, evb8, evb9, ↓evZ2, ↓evZ3, ↓Int.cast_ofNat_Int, implies_true, ne_eq, or_false, false_or, or_self, gt_iff_lt, isMut, aFn, List.contains, List.elem, aBox, aField, aLoad, sub, aNil, aPick, aExt, aFld, gd, noJunk, plainOp, aBuildSlice, aBuild, aFill, aParts, seqParts, fitAll, List.range', ↓reduceIte, reduceCtorEq, Nat.reduceEqDiff, Nat.reduceAdd, Nat.reduceLeDiff, Nat.reduceMul, Nat.reduceLT, Nat.reduceBEq, Int.reduceEq, tf_S4_70]
        exact ⟨qi, i3, hQ0.trans hS0 i4⟩
      obtain ⟨σi, ai, rest, qi, si⟩ := p
      obtain ⟨i1, i2, i3, i4, i5, i6⟩ := hinv
      simp only at i1 i2 i3 i4 i5 i6
      obtain ⟨y, hy⟩ : ∃ y, tsb[i]? = some y := ⟨_, List.getElem?_eq_getElem (by omega)⟩
      have hdr' : tsb.drop i = y :: tsb.drop (i + 1) := by
        obtain ⟨h1, h2⟩ := List.getElem?_eq_some_iff.1 hy
        rw [List.drop_eq_getElem_cons h1, h2]
      rw [hdr, hdr', unisF] at i5
      have f4 := i4.frame b4 _ e4 h4c h4m (hl4 q rfl)
      have f5 := i4.frame b5 _ e5 h5c h5m hl5
      have hw := wrap64 (n := (i : Int) + 1) (by omega) (by omega)
      simp -implicitDefEqProofs only [hlt', setCells, h54, h54.symm, List.length_map, h1, f4, f5, ev_at (av := Tm.av) eI_27 hx (Tm.av_width x), ev_at (av := Tm.av) eI_27 hy (Tm.av_width y), evb0, evb1, evb2, evb3, evb4, evb5, evb6, evb7, evb8, evb9, ↓evZ2, ↓evZ3, ↓Int.cast_ofNat_Int, implies_true, ne_eq, or_false, false_or, or_self, gt_iff_lt, isMut, aFn, List.contains, List.elem, aBox, aField, aLoad, sub, aNil, aPick, aExt, aFld, gd, noJunk, plainOp, aBuildSlice, aBuild, aFill, aParts, seqParts, fitAll, List.range', ↓reduceIte, reduceCtorEq, Nat.reduceEqDiff, Nat.reduceAdd, Nat.reduceLeDiff, Nat.reduceMul, Nat.reduceLT, Nat.reduceBEq, Int.reduceEq, tf_S4_70]
      refine arun_plan [(0, 1), (1, 1), (3, 1), (6, 1), (8, 1), (2, 2), (4, 1), (5, 2), (7, 2), (9, 1), (10, 2), (11, 0), (12, 1)] [0, 1, 3, 6, 8, 2, 4, 5, 7, 9, 10, 12] mixed (by decide +kernel) (by decide +kernel) (by decide +kernel) ?_
      simp -implicitDefEqProofs only [setCells, h54, h54.symm, List.length_map, h1, f4, f5, ev_at (av := Tm.av) eI_27 hx (Tm.av_width x), ev_at (av := Tm.av) eI_27 hy (Tm.av_width y), evb0, evb1, evb2, evb3, evb4, evb5, evb6, evb7, evb8, evb9, ↓evZ2, ↓evZ3, ↓Int.cast_ofNat_Int, implies_true, ne_eq, or_false, false_or, or_self, gt_iff_lt, isMut, aFn, List.contains, List.elem, aBox, aField, aLoad, sub, aNil, aPick, aExt, aFld, gd, noJunk, plainOp, aBuildSlice, aBuild, aFill, aParts, seqParts, fitAll, List.range', ↓reduceIte, reduceCtorEq, Nat.reduceEqDiff, Nat.reduceAdd, Nat.reduceLeDiff, Nat.reduceMul, Nat.reduceLT, Nat.reduceBEq, Int.reduceEq, tf_S4_70]
      cases hu : uniF g σi x y with
      | none => rw [hu] at i5; cases i5
      | some p1 =>
        obtain ⟨r1, σ1, tr1⟩ := p1
        rw [hu] at i5
        have hx1 : Sm x := hlas x (List.mem_of_getElem? hx)
        have hy1 : Sm y := hlbs y (List.mem_of_getElem? hy)
        have hU := uniF_uni i1 hu
        have hA := (uni_all sm_kids g).1 σi x y r1 σ1 tr1 i1 hu i2 hx1 hy1
        have hsub : tr1.length ≤ rest.length := by
          cases r1 with
          | false => simp only [Option.some.injEq, Prod.mk.injEq] at i5; rw [i5.2.2]; exact Nat.le_refl _
          | true =>
            simp only at i5
            cases hu2 : unisF g σ1 (tsa.drop (i + 1)) (tsb.drop (i + 1)) with
            | none => rw [hu2] at i5; cases i5
            | some p2 =>
              obtain ⟨r2, σ2, tr2⟩ := p2
              rw [hu2] at i5
              simp only [Option.some.injEq, Prod.mk.injEq] at i5
              rw [← i5.2.2, List.length_append]; omega
        have hadd : add.length = ai.length + rest.length := by rw [← i6, List.length_append]
        refine (IH σi x y r1 σ1 tr1 i1 i2 hx1 hy1 hu c m qi (tr ++ ai) si i3 (by rw [List.length_append]; omega)).mono ?_
        rintro _ s2 ⟨rfl, q2, hS2, hQ2⟩
        cases r1 with
        | false =>
          simp only [Option.some.injEq, Prod.mk.injEq] at i5
          obtain ⟨rfl, rfl, rfl⟩ := i5
          simp -implicitDefEqProofs only [setCells, h54, h54.symm, List.length_map, h1, f4, f5, ev_at (av := Tm.av) eI_27 hx (Tm.av_width x), ev_at (av := Tm.av) eI_27 hy (Tm.av_width y), evb0, evb1, evb2, evb3, evb4, evb5, evb6, evb7, evb8, evb9, ↓evZ2, ↓evZ3, ↓Int.cast_ofNat_Int, implies_true, ne_eq, or_false, false_or, or_self, gt_iff_lt, isMut, aFn, List.contains, List.elem, aBox, aField, aLoad, sub, aNil, aPick, aExt, aFld, gd, noJunk, plainOp, aBuildSlice, aBuild, aFill, aParts, seqParts, fitAll, List.range', ↓reduceIte, reduceCtorEq, Nat.reduceEqDiff, Nat.reduceAdd, Nat.reduceLeDiff, Nat.reduceMul, Nat.reduceLT, Nat.reduceBEq, Int.reduceEq, tf_S4_70]
          rw [← i6, ← List.append_assoc]
          exact ⟨q2, hS2, hQ0.trans hS0 (i4.trans i3 hQ2)⟩
        | true =>
          simp only at i5
          cases hu2 : unisF g σ1 (tsa.drop (i + 1)) (tsb.drop (i + 1)) with
          | none => rw [hu2] at i5; cases i5
          | some p2 =>
            obtain ⟨r2, σ2, tr2⟩ := p2
            rw [hu2] at i5
            simp only [Option.some.injEq, Prod.mk.injEq] at i5
            obtain ⟨rfl, rfl, rfl⟩ := i5
            simp -implicitDefEqProofs only [setCells, h54, h54.symm, List.length_map, h1, f4, f5, ev_at (av := Tm.av) eI_27 hx (Tm.av_width x), ev_at (av := Tm.av) eI_27 hy (Tm.av_width y), evb0, evb1, evb2, evb3, evb4, evb5, evb6, evb7, evb8, evb9, ↓evZ2, ↓evZ3, ↓Int.cast_ofNat_Int, implies_true, ne_eq, or_false, false_or, or_self, gt_iff_lt, isMut, aFn, List.contains, List.elem, aBox, aField, aLoad, sub, aNil, aPick, aExt, aFld, gd, noJunk, plainOp, aBuildSlice, aBuild, aFill, aParts, seqParts, fitAll, List.range', ↓reduceIte, reduceCtorEq, Nat.reduceEqDiff, Nat.reduceAdd, Nat.reduceLeDiff, Nat.reduceMul, Nat.reduceLT, Nat.reduceBEq, Int.reduceEq, tf_S4_70]
            exact ⟨(σ1, ai ++ tr1, tr2, q2, s2), ⟨hU.good, hA, by rw [← List.append_assoc]; exact hS2, i4.trans i3 hQ2, hu2, by rw [List.append_assoc]; exact i6⟩, LessL.mk (by simp -implicitDefEqProofs only [hw, setCells, h54, h54.symm, List.length_map, h1, f4, f5, ev_at (av := Tm.av) eI_27 hx (Tm.av_width x), ev_at (av := Tm.av) eI_27 hy (Tm.av_width y), evb0, evb1, evb2, evb3, evb4, evb5, evb6, evb7, evb8, evb9, ↓evZ2, ↓evZ3, ↓Int.cast_ofNat_Int, implies_true, ne_eq, or_false, false_or, or_self, gt_iff_lt, isMut, aFn, List.contains, List.elem, aBox, aField, aLoad, sub, aNil, aPick, aExt, aFld, gd, noJunk, plainOp, aBuildSlice, aBuild, aFill, aParts, seqParts, fitAll, List.range', ↓reduceIte, reduceCtorEq, Nat.reduceEqDiff, Nat.reduceAdd, Nat.reduceLeDiff, Nat.reduceMul, Nat.reduceLT, Nat.reduceBEq, Int.reduceEq, tf_S4_70])⟩
    · have hd : ka = kb → na = nb → sa = sb' → ¬ (tsa.length : Int) = (tsb.length : Int) := by
        intro e1 e2 e3 e4
        have : headEq (Tm.mk ka na sa tsa) (Tm.mk kb nb sb' tsb) = true := headEq_iff.2 ⟨e1, e2, e3, by simp only [Tm.ts]; omega⟩
        rw [h3] at this; cases this
      by_cases e1 : ka = kb
      · by_cases e2 : na = nb
        · by_cases e3 : sa = sb'
          · have e4 := hd e1 e2 e3
            subst e1 e2 e3
            simp -implicitDefEqProofs only [decide_false, decide_true, setCells, h54, h54.symm, h1, List.length_map, e4, evb0, evb1, evb2, evb3, evb4, evb5, evb6, evb7, evb8, evb9, ↓evZ2, ↓evZ3, ↓Int.cast_ofNat_Int, implies_true, ne_eq, or_false, false_or, or_self, gt_iff_lt, isMut, aFn, List.contains, List.elem, aBox, aField, aLoad, sub, aNil, aPick, aExt, aFld, gd, noJunk, plainOp, aBuildSlice, aBuild, aFill, aParts, seqParts, fitAll, List.range', ↓reduceIte, reduceCtorEq, Nat.reduceEqDiff, Nat.reduceAdd, Nat.reduceLeDiff, Nat.reduceMul, Nat.reduceLT, Nat.reduceBEq, Int.reduceEq, tf_S4_70]
            exact hfin _ _
          · subst e1 e2
            simp -implicitDefEqProofs only [decide_false, decide_true, setCells, h54, h54.symm, h1, List.length_map, e3, evb0, evb1, evb2, evb3, evb4, evb5, evb6, evb7, evb8, evb9, ↓evZ2, ↓evZ3, ↓Int.cast_ofNat_Int, implies_true, ne_eq, or_false, false_or, or_self, gt_iff_lt, isMut, aFn, List.contains, List.elem, aBox, aField, aLoad, sub, aNil, aPick, aExt, aFld, gd, noJunk, plainOp, aBuildSlice, aBuild, aFill, aParts, seqParts, fitAll, List.range', ↓reduceIte, reduceCtorEq, Nat.reduceEqDiff, Nat.reduceAdd, Nat.reduceLeDiff, Nat.reduceMul, Nat.reduceLT, Nat.reduceBEq, Int.reduceEq, tf_S4_70]
            exact hfin _ _
        · subst e1
          simp -implicitDefEqProofs only [decide_false, decide_true, setCells, h54, h54.symm, h1, List.length_map, e2, evb0, evb1, evb2, evb3, evb4, evb5, evb6, evb7, evb8, evb9, ↓evZ2, ↓evZ3, ↓Int.cast_ofNat_Int, implies_true, ne_eq, or_false, false_or, or_self, gt_iff_lt, isMut, aFn, List.contains, List.elem, aBox, aField, aLoad, sub, aNil, aPick, aExt, aFld, gd, noJunk, plainOp, aBuildSlice, aBuild, aFill, aParts, seqParts, fitAll, List.range', ↓reduceIte, reduceCtorEq, Nat.reduceEqDiff, Nat.reduceAdd, Nat.reduceLeDiff, Nat.reduceMul, Nat.reduceLT, Nat.reduceBEq, Int.reduceEq, tf_S4_70]
          exact hfin _ _
      · clear hd
        simp -implicitDefEqProofs only [decide_false, decide_true, setCells, h54, h54.symm, h1, h2, List.length_map, e1, evb0, evb1, evb2, evb3, evb4, evb5, evb6, evb7, evb8, evb9, ↓evZ2, ↓evZ3, ↓Int.cast_ofNat_Int, implies_true, ne_eq, or_false, false_or, or_self, gt_iff_lt, isMut, aFn, List.contains, List.elem, aBox, aField, aLoad, sub, aNil, aPick, aExt, aFld, gd, noJunk, plainOp, aBuildSlice, aBuild, aFill, aParts, seqParts, fitAll, List.range', ↓reduceIte, reduceCtorEq, Nat.reduceEqDiff, Nat.reduceAdd, Nat.reduceLeDiff, Nat.reduceMul, Nat.reduceLT, Nat.reduceBEq, Int.reduceEq, tf_S4_70]
        exact hfin _ _
end Go.AW


/- The program's store of bindings: what a term stands for. -/
namespace Go.AW
open Go.Proofs.Try
set_option linter.unusedSimpArgs false
set_option maxRecDepth 100000

/-- What resolving leaves: the term, or nothing if it is too large. -/
def Rsv (v : Tm) (D : Nat) (cnt cb : Nat) (st : Store) (r : AV) (st' : Store) : Prop :=
  ∃ cnt' : Nat, cnt' ≤ 121 ∧ st' = st.upd cb (.cells [.int .i64 cnt']) ∧
    if v.flat D = true ∧ cnt + v.nodes ≤ 120 then r = .tup [v.av, .bool true] ∧ cnt' = cnt + v.nodes else r = .tup [Tm.zero.av, .bool false]

theorem sumL_append {α : Type} (f : α → Nat) : ∀ l m : List α, sumL f (l ++ m) = sumL f l + sumL f m
  | [], m => by simp [sumL]
  | x :: l, m => by simp only [List.cons_append, sumL, sumL_append f l m]; omega
abbrev Cv (t : Tm) : Prop := t.cv = true
theorem good_walked {σ : Sub} {R : Int → Tm} {rk : Int → Nat} {B f : Nat} (G : Good σ R rk B) {t : Tm} {k n : Int} {s : ByteArray} {ts : List Tm} (hw : WkN σ f t (.mk k n s ts)) (hc : Cv (.mk k n s ts)) : t.mapv R = .mk k n s (ts.map (Tm.mapv R)) := by
  rw [← hw.mapv G.isSol]
  by_cases hk : k = 1
  · rw [Tm.mapv_var R hk, G.free (show σ n = none from hw.end hk)]
    obtain ⟨h1, _⟩ := Tm.cv_mk.1 hc
    obtain ⟨rfl, rfl⟩ := h1 hk
    rw [hk]; rfl
  · rw [Tm.mapv_mk R hk]

theorem tf_S5_171 : (type_of% tI_2) ∧ (type_of% zI_2) ∧ (type_of% Go.Proofs.Try.underlying2) ∧ (type_of% tI_3) ∧ (type_of% zI_3) ∧ (type_of% Go.Proofs.Try.underlying3) ∧ (type_of% tI_4) ∧ (type_of% zI_4) ∧ (type_of% Go.Proofs.Try.underlying4) ∧ (type_of% tI_5) ∧ (type_of% zI_5) ∧ (type_of% Go.Proofs.Try.underlying5) ∧ (type_of% tI_6) ∧ (type_of% zI_6) ∧ (type_of% Go.Proofs.Try.underlying6) ∧ (type_of% tI_7) ∧ (type_of% zI_7) ∧ (type_of% fI_7_0) ∧ (type_of% fI_7_1) ∧ (type_of% fI_7_2) ∧ (type_of% fI_7_3) ∧ (type_of% bI_7) ∧ (type_of% tI_8) ∧ (type_of% zI_8) ∧ (type_of% fI_8_0) ∧ (type_of% fI_8_1) ∧ (type_of% fI_8_2) ∧ (type_of% fI_8_3) ∧ (type_of% bI_8) ∧ (type_of% tI_9) ∧ (type_of% zI_9) ∧ (type_of% Go.Proofs.Try.underlying9) ∧ (type_of% tI_10) ∧ (type_of% zI_10) ∧ (type_of% Go.Proofs.Try.underlying10) ∧ (type_of% tI_11) ∧ (type_of% zI_11) ∧ (type_of% Go.Proofs.Try.underlying11) ∧ (type_of% tI_12) ∧ (type_of% zI_12) ∧ (type_of% Go.Proofs.Try.underlying12) ∧ (type_of% tI_13) ∧ (type_of% zI_13) ∧ (type_of% fI_13_0) ∧ (type_of% fI_13_1) ∧ (type_of% bI_13) ∧ (type_of% tI_14) ∧ (type_of% zI_14) ∧ (type_of% fI_14_0) ∧ (type_of% fI_14_1) ∧ (type_of% bI_14) ∧ (type_of% tI_15) ∧ (type_of% zI_15) ∧ (type_of% tI_16) ∧ (type_of% zI_16) ∧ (type_of% tI_17) ∧ (type_of% zI_17) ∧ (type_of% tI_27) ∧ (type_of% zI_27) ∧ (type_of% eI_27) ∧ (type_of% eB_27) ∧ (type_of% eZ_27) ∧ (type_of% Go.Proofs.Try.underlying27) ∧ (type_of% tI_40) ∧ (type_of% zI_40) ∧ (type_of% fI_40_0) ∧ (type_of% fI_40_1) ∧ (type_of% fI_40_2) ∧ (type_of% fI_40_3) ∧ (type_of% bI_40) ∧ (type_of% tI_41) ∧ (type_of% zI_41) ∧ (type_of% fI_41_0) ∧ (type_of% fI_41_1) ∧ (type_of% fI_41_2) ∧ (type_of% fI_41_3) ∧ (type_of% bI_41) ∧ (type_of% tI_62) ∧ (type_of% zI_62) ∧ (type_of% eI_62) ∧ (type_of% eB_62) ∧ (type_of% eZ_62) ∧ (type_of% Go.Proofs.Try.underlying62) ∧ (type_of% tI_64) ∧ (type_of% zI_64) ∧ (type_of% fI_64_0) ∧ (type_of% fI_64_1) ∧ (type_of% bI_64) ∧ (type_of% tI_102) ∧ (type_of% zI_102) ∧ (type_of% tI_111) ∧ (type_of% zI_111) ∧ (type_of% tI_120) ∧ (type_of% zI_120) ∧ (type_of% fI_120_0) ∧ (type_of% fI_120_1) ∧ (type_of% fI_120_2) ∧ (type_of% fI_120_3) ∧ (type_of% fI_120_4) ∧ (type_of% fI_120_5) ∧ (type_of% fI_120_6) ∧ (type_of% bI_120) ∧ (type_of% tI_171) ∧ (type_of% zI_171) ∧ (type_of% fI_171_0) ∧ (type_of% fI_171_1) ∧ (type_of% fI_171_2) ∧ (type_of% fI_171_3) ∧ (type_of% fI_171_4) ∧ (type_of% fI_171_5) ∧ (type_of% fI_171_6) ∧ (type_of% bI_171) := ⟨tI_2, zI_2, Go.Proofs.Try.underlying2, tI_3, zI_3, Go.Proofs.Try.underlying3, tI_4, zI_4, Go.Proofs.Try.underlying4, tI_5, zI_5, Go.Proofs.Try.underlying5, tI_6, zI_6, Go.Proofs.Try.underlying6, tI_7, zI_7, fI_7_0, fI_7_1, fI_7_2, fI_7_3, bI_7, tI_8, zI_8, fI_8_0, fI_8_1, fI_8_2, fI_8_3, bI_8, tI_9, zI_9, Go.Proofs.Try.underlying9, tI_10, zI_10, Go.Proofs.Try.underlying10, tI_11, zI_11, Go.Proofs.Try.underlying11, tI_12, zI_12, Go.Proofs.Try.underlying12, tI_13, zI_13, fI_13_0, fI_13_1, bI_13, tI_14, zI_14, fI_14_0, fI_14_1, bI_14, tI_15, zI_15, tI_16, zI_16, tI_17, zI_17, tI_27, zI_27, eI_27, eB_27, eZ_27, Go.Proofs.Try.underlying27, tI_40, zI_40, fI_40_0, fI_40_1, fI_40_2, fI_40_3, bI_40, tI_41, zI_41, fI_41_0, fI_41_1, fI_41_2, fI_41_3, bI_41, tI_62, zI_62, eI_62, eB_62, eZ_62, Go.Proofs.Try.underlying62, tI_64, zI_64, fI_64_0, fI_64_1, bI_64, tI_102, zI_102, tI_111, zI_111, tI_120, zI_120, fI_120_0, fI_120_1, fI_120_2, fI_120_3, fI_120_4, fI_120_5, fI_120_6, bI_120, tI_171, zI_171, fI_171_0, fI_171_1, fI_171_2, fI_171_3, fI_171_4, fI_171_5, fI_171_6, bI_171⟩
theorem c_resolving {σ : Sub} {R : Int → Tm} {rk : Int → Nat} {B : Nat} (G : Good σ R rk B) (hcv : AllS Cv σ) (hsm : AllS Sm σ) (c m cb : Nat) (q : AV) (hcb : cb ≠ c ∧ cb ≠ m) :
    ∀ (D : Nat) (t : Tm) (cnt : Nat) (st : Store), D ≤ 31 → Cv t → Sm t → cnt ≤ 120 → SubAt st c m q σ → st cb = some (.cells [.int .i64 cnt]) →
    ACalls prog 171 [.ptr c 0, t.av, .int .i64 (31 - D : Int), .ptr cb 0] st (Rsv (t.mapv R) D cnt cb st)
  | D, t, cnt, st, hD, hct, hst, hcnt, hS, hC => by
    have IH := fun (D' : Nat) (hlt : D' < D) (x : Tm) cnt st => c_resolving G hcv hsm c m cb q hcb D' x cnt st
    obtain ⟨f, hw⟩ := G.wk t
    generalize wk σ t = u at *
    have hcu := hw.all (p := Cv) hcv hct
    have hsu := hw.all (p := Sm) hsm hst
    have hcw := fun st (hS : SubAt st c m q σ) => c_walk hw c m q st hS
    obtain ⟨k, n, s, ts⟩ := u
    have hv := good_walked G hw hcu
    rw [hv]
    obtain ⟨hlen, hsms⟩ := Tm.small_mk hsu
    obtain ⟨_, hcvs⟩ := Tm.cv_mk.1 hcu
    refine ACalls.dropS (ACalls.fin ?_)
    refine acalls_fit [1000000, 5, 10] func171 ntmps171 rfl rfl (by kernel_rfl) (by decide +kernel) (by show 4 ≤ _; decide +kernel) ?_
    intro _
    simp -implicitDefEqProofs only [setCells, evb0, evb1, evb2, evb3, evb4, evb5, evb6, evb7, evb8, evb9, ↓evZ2, ↓evZ3, ↓Int.cast_ofNat_Int, implies_true, ne_eq, or_false, false_or, or_self, gt_iff_lt, isMut, aFn, List.contains, List.elem, aBox, aField, aLoad, sub, aNil, aPick, aExt, aFld, gd, noJunk, plainOp, aBuildSlice, aBuild, aFill, aParts, seqParts, fitAll, List.range', ↓reduceIte, reduceCtorEq, Nat.reduceEqDiff, Nat.reduceAdd, Nat.reduceLeDiff, Nat.reduceMul, Nat.reduceLT, Nat.reduceBEq, Int.reduceEq, tf_S5_171]
    intro b5 h5 b8 h8
    have h85 : b8 ≠ b5 := by rintro rfl; rw [Store.upd_same] at h8; cases h8
    have hn8 : st b8 = none := by rw [Store.upd_ne st _ h85] at h8; exact h8
    have hS' : ∀ o o', SubAt ((st.upd b5 o).upd b8 o') c m q σ := fun o o' => (hS.upd h5).upd (by rw [Store.upd_ne _ _ h85]; exact hn8)
    have hb5 : cb ≠ b5 := by rintro rfl; rw [hC] at h5; cases h5
    have hb8 : cb ≠ b8 := by rintro rfl; rw [hC] at hn8; cases hn8
    have hwc : IntKind.i64.wrap ((cnt : Int) + 1) = (cnt : Int) + 1 := wrap64 (by omega) (by omega)
    simp -implicitDefEqProofs only [setCells, h85, h85.symm, hb5, hb8, hb5.symm, hb8.symm, hC, hwc, evb0, evb1, evb2, evb3, evb4, evb5, evb6, evb7, evb8, evb9, ↓evZ2, ↓evZ3, ↓Int.cast_ofNat_Int, implies_true, ne_eq, or_false, false_or, or_self, gt_iff_lt, isMut, aFn, List.contains, List.elem, aBox, aField, aLoad, sub, aNil, aPick, aExt, aFld, gd, noJunk, plainOp, aBuildSlice, aBuild, aFill, aParts, seqParts, fitAll, List.range', ↓reduceIte, reduceCtorEq, Nat.reduceEqDiff, Nat.reduceAdd, Nat.reduceLeDiff, Nat.reduceMul, Nat.reduceLT, Nat.reduceBEq, Int.reduceEq, tf_S5_171]
    refine (hcw _ (hS' _ _)).to ?_
    simp only [Tm.av_mk]
    simp -implicitDefEqProofs only [setCells, h85, h85.symm, hb5, hb8, hb5.symm, hb8.symm, hC, hwc, evb0, evb1, evb2, evb3, evb4, evb5, evb6, evb7, evb8, evb9, ↓evZ2, ↓evZ3, ↓Int.cast_ofNat_Int, implies_true, ne_eq, or_false, false_or, or_self, gt_iff_lt, isMut, aFn, List.contains, List.elem, aBox, aField, aLoad, sub, aNil, aPick, aExt, aFld, gd, noJunk, plainOp, aBuildSlice, aBuild, aFill, aParts, seqParts, fitAll, List.range', ↓reduceIte, reduceCtorEq, Nat.reduceEqDiff, Nat.reduceAdd, Nat.reduceLeDiff, Nat.reduceMul, Nat.reduceLT, Nat.reduceBEq, Int.reduceEq, tf_S5_171]
    have hfail : ∀ (st' : Store) (cnt' : Nat), cnt' ≤ 121 → Drops st' (st.upd cb (.cells [.int .i64 cnt'])) → ¬ ((Tm.mk k n s (ts.map (Tm.mapv R))).flat D = true ∧ cnt + (Tm.mk k n s (ts.map (Tm.mapv R))).nodes ≤ 120) →
        ∃ b l s0, st' = accS s0 b l ∧ (l ≠ [] → s0 b = none) ∧ (∀ e ∈ l, e.isJunk = false) ∧ Even l ∧ ∃ s2, Drops s0 s2 ∧ Rsv (Tm.mk k n s (ts.map (Tm.mapv R))) D cnt cb st (AV.fin b l (.tup [.agg [.int .i64 0, .int .i64 0, .str ⟨#[]⟩, .fslice []], .bool false])) s2 := fun st' cnt' h1 h2 h3 => by
      refine ⟨0, [], st', rfl, by simp, by simp, ⟨4, by simp⟩, _, h2, cnt', h1, rfl, ?_⟩
      rw [if_neg h3]
      simp only [Tm.zero, Tm.av_mk, fin_agg, fin_tup, fin_int, fin_bool, fin_str, fin_slice, fin_fslice, fin_pptr, fin_ptr, fin_func, fin_map, fin_undef, fin_accV, tm_fin, List.map_cons, List.map_nil]
    have hdr : ∀ o5 o8 o5' o8' cnt', Drops (((((st.upd b5 o5).upd b8 o8).upd b5 o5').upd cb (.cells [.int .i64 cnt'])).upd b8 o8') (st.upd cb (.cells [.int .i64 cnt'])) := fun o5 o8 o5' o8' cnt' x => by
      by_cases e5 : x = b5 <;> by_cases e8 : x = b8 <;> by_cases ec : x = cb <;> simp_all [Store.upd]
    refine opsG_split (fun h => ?_) (fun h => ?_)
    case refine_2 =>
      simp -implicitDefEqProofs only [h, setCells, h85, h85.symm, hb5, hb8, hb5.symm, hb8.symm, hC, hwc, evb0, evb1, evb2, evb3, evb4, evb5, evb6, evb7, evb8, evb9, ↓evZ2, ↓evZ3, ↓Int.cast_ofNat_Int, implies_true, ne_eq, or_false, false_or, or_self, gt_iff_lt, isMut, aFn, List.contains, List.elem, aBox, aField, aLoad, sub, aNil, aPick, aExt, aFld, gd, noJunk, plainOp, aBuildSlice, aBuild, aFill, aParts, seqParts, fitAll, List.range', ↓reduceIte, reduceCtorEq, Nat.reduceEqDiff, Nat.reduceAdd, Nat.reduceLeDiff, Nat.reduceMul, Nat.reduceLT, Nat.reduceBEq, Int.reduceEq, tf_S5_171]
      refine hfail _ (cnt + 1) (by omega) (hdr _ _ _ _ _) ?_
      simp at h
      rw [Tm.nodes_mk]
      omega
    simp -implicitDefEqProofs only [h, setCells, h85, h85.symm, hb5, hb8, hb5.symm, hb8.symm, hC, hwc, evb0, evb1, evb2, evb3, evb4, evb5, evb6, evb7, evb8, evb9, ↓evZ2, ↓evZ3, ↓Int.cast_ofNat_Int, implies_true, ne_eq, or_false, false_or, or_self, gt_iff_lt, isMut, aFn, List.contains, List.elem, aBox, aField, aLoad, sub, aNil, aPick, aExt, aFld, gd, noJunk, plainOp, aBuildSlice, aBuild, aFill, aParts, seqParts, fitAll, List.range', ↓reduceIte, reduceCtorEq, Nat.reduceEqDiff, Nat.reduceAdd, Nat.reduceLeDiff, Nat.reduceMul, Nat.reduceLT, Nat.reduceBEq, Int.reduceEq, tf_S5_171]
    simp at h
    refine cond_split (fun h2 => ?_) (fun h2 => ?_)
    · simp only [decide_eq_true_eq] at h2
      obtain rfl : D = 0 := by omega
      simp -implicitDefEqProofs only [setCells, h85, h85.symm, hb5, hb8, hb5.symm, hb8.symm, hC, hwc, evb0, evb1, evb2, evb3, evb4, evb5, evb6, evb7, evb8, evb9, ↓evZ2, ↓evZ3, ↓Int.cast_ofNat_Int, implies_true, ne_eq, or_false, false_or, or_self, gt_iff_lt, isMut, aFn, List.contains, List.elem, aBox, aField, aLoad, sub, aNil, aPick, aExt, aFld, gd, noJunk, plainOp, aBuildSlice, aBuild, aFill, aParts, seqParts, fitAll, List.range', ↓reduceIte, reduceCtorEq, Nat.reduceEqDiff, Nat.reduceAdd, Nat.reduceLeDiff, Nat.reduceMul, Nat.reduceLT, Nat.reduceBEq, Int.reduceEq, tf_S5_171]
      exact hfail _ (cnt + 1) (by omega) (hdr _ _ _ _ _) (by rw [Tm.flat_zero]; simp)
    simp only [decide_eq_false_iff_not] at h2
    obtain ⟨D', rfl⟩ : ∃ D', D = D' + 1 := ⟨D - 1, by omega⟩
    have hdeep : IntKind.i64.wrap (31 - ((D' : Int) + 1) + 1) = 31 - (D' : Int) := by rw [wrap64 (by omega) (by omega)]; omega
    simp -implicitDefEqProofs only [setCells, h85, h85.symm, hb5, hb8, hb5.symm, hb8.symm, hC, hwc, evb0, evb1, evb2, evb3, evb4, evb5, evb6, evb7, evb8, evb9, ↓evZ2, ↓evZ3, ↓Int.cast_ofNat_Int, implies_true, ne_eq, or_false, false_or, or_self, gt_iff_lt, isMut, aFn, List.contains, List.elem, aBox, aField, aLoad, sub, aNil, aPick, aExt, aFld, gd, noJunk, plainOp, aBuildSlice, aBuild, aFill, aParts, seqParts, fitAll, List.range', ↓reduceIte, reduceCtorEq, Nat.reduceEqDiff, Nat.reduceAdd, Nat.reduceLeDiff, Nat.reduceMul, Nat.reduceLT, Nat.reduceBEq, Int.reduceEq, tf_S5_171]
    intro b10 h10
    have h105 : b10 ≠ b5 := by rintro rfl; simp [Store.upd, hb5.symm] at h10
    have h108 : b10 ≠ b8 := by rintro rfl; simp [Store.upd, h85, hb8.symm] at h10
    have h10c : b10 ≠ cb := by rintro rfl; simp [Store.upd] at h10
    have hn10 : st b10 = none := by rw [Store.upd_ne _ _ h10c, Store.upd_ne _ _ h105, Store.upd_ne _ _ h108, Store.upd_ne _ _ h105] at h10; exact h10
    simp -implicitDefEqProofs only [setCells, h85, h85.symm, hb5, hb8, hb5.symm, hb8.symm, h105, h105.symm, h108, h108.symm, h10c, h10c.symm, hdeep, List.length_map, evb0, evb1, evb2, evb3, evb4, evb5, evb6, evb7, evb8, evb9, ↓evZ2, ↓evZ3, ↓Int.cast_ofNat_Int, implies_true, ne_eq, or_false, false_or, or_self, gt_iff_lt, isMut, aFn, List.contains, List.elem, aBox, aField, aLoad, sub, aNil, aPick, aExt, aFld, gd, noJunk, plainOp, aBuildSlice, aBuild, aFill, aParts, seqParts, fitAll, List.range', ↓reduceIte, reduceCtorEq, Nat.reduceEqDiff, Nat.reduceAdd, Nat.reduceLeDiff, Nat.reduceMul, Nat.reduceLT, Nat.reduceBEq, Int.reduceEq, tf_S5_171]
    rw [Store.upd_mid h85]
    have hWS : SubAt ((st.upd b8 (.cells [.int .i64 0, .int .i64 0, .str ⟨#[]⟩, .fslice []])).upd b5 (.cells [.int .i64 k, .int .i64 n, .str s, .slice (ts.map Tm.av)])) c m q σ := (hS.upd hn8).upd (by rw [Store.upd_ne _ _ h85.symm]; exact h5)
    have hW8 : ((st.upd b8 (.cells [.int .i64 0, .int .i64 0, .str ⟨#[]⟩, .fslice []])).upd b5 (.cells [.int .i64 k, .int .i64 n, .str s, .slice (ts.map Tm.av)])) b8 = some (.cells [.int .i64 0, .int .i64 0, .str ⟨#[]⟩, .fslice []]) := by rw [Store.upd_ne _ _ h85, Store.upd_same]
    have hWd : ∀ X Y Z, Drops (((((st.upd b8 (.cells [.int .i64 0, .int .i64 0, .str ⟨#[]⟩, .fslice []])).upd b5 (.cells [.int .i64 k, .int .i64 n, .str s, .slice (ts.map Tm.av)])).upd cb X).upd b8 Y).upd b10 Z) (st.upd cb X) := fun X Y Z x => by
      by_cases e5 : x = b5 <;> by_cases e8 : x = b8 <;> by_cases ec : x = cb <;> by_cases e10 : x = b10 <;> simp_all [Store.upd]
    generalize ((st.upd b8 (.cells [.int .i64 0, .int .i64 0, .str ⟨#[]⟩, .fslice []])).upd b5 (.cells [.int .i64 k, .int .i64 n, .str s, .slice (ts.map Tm.av)])) = W at *
    obtain ⟨h10cc, h10m⟩ := hS.ne hn10
    refine arun_each (σ := Nat) [1000000, 5, 10] [0, 2, 3, 8, 10, 40, 41] ts
      (fun i b => (((ts.take i).map (Tm.mapv R)).map Tm.av ≠ [] → (Store.upd (W.upd cb (.cells [.int .i64 ((cnt + 1 + sumL Tm.nodes ((ts.take i).map (Tm.mapv R)) : Nat) : Int)])) b10 (.cells ([.int .i64 k, .int .i64 n, .str s] ++ [accV 4 b (((ts.take i).map (Tm.mapv R)).map Tm.av)]))) b = none) ∧
        cnt + 1 + sumL Tm.nodes ((ts.take i).map (Tm.mapv R)) ≤ 120 ∧ ((ts.take i).map (Tm.mapv R)).all (fun x => x.flat D') = true)
      (fun i b => [(9, .bool false), (42, .int .i64 i)])
      (fun i b => kidS (W.upd cb (.cells [.int .i64 ((cnt + 1 + sumL Tm.nodes ((ts.take i).map (Tm.mapv R)) : Nat) : Int)])) b10 b [.int .i64 k, .int .i64 n, .str s] (((ts.take i).map (Tm.mapv R)).map Tm.av)) (by decide +kernel)
      ⟨0, ⟨fun h => absurd rfl h, by simp [sumL]; omega, by simp⟩, LessL.mk (by simp -implicitDefEqProofs only [setCells, h85, h85.symm, hb5, hb8, hb5.symm, hb8.symm, h105, h105.symm, h108, h108.symm, h10c, h10c.symm, hdeep, List.length_map, evb0, evb1, evb2, evb3, evb4, evb5, evb6, evb7, evb8, evb9, ↓evZ2, ↓evZ3, ↓Int.cast_ofNat_Int, implies_true, ne_eq, or_false, false_or, or_self, gt_iff_lt, isMut, aFn, List.contains, List.elem, aBox, aField, aLoad, sub, aNil, aPick, aExt, aFld, gd, noJunk, plainOp, aBuildSlice, aBuild, aFill, aParts, seqParts, fitAll, List.range', ↓reduceIte, reduceCtorEq, Nat.reduceEqDiff, Nat.reduceAdd, Nat.reduceLeDiff, Nat.reduceMul, Nat.reduceLT, Nat.reduceBEq, Int.reduceEq, tf_S5_171])⟩ (fun i x b hx hlt hlt' hdr' hinv => ?_) (fun b hge hinv => ?_)
    · obtain ⟨i1, i2, i3⟩ := hinv
      have htk : (ts.take (i + 1)).map (Tm.mapv R) = (ts.take i).map (Tm.mapv R) ++ [x.mapv R] := by rw [List.take_add_one, hx]; simp
      have hlen' : (((ts.take i).map (Tm.mapv R)).map Tm.av).length = i := by simp only [List.length_map, List.length_take]; omega
      have hw := wrap64 (n := (i : Int) + 1) (by omega) (by omega)
      have hmem := List.mem_of_getElem? hx
      generalize hl0 : (ts.take i).map (Tm.mapv R) = l0 at *
      generalize hc0 : cnt + 1 + sumL Tm.nodes l0 = c0 at *
      have hWc : (W.upd cb (.cells [.int .i64 (c0 : Int)])) cb ≠ none := by rw [Store.upd_same]; simp
      have hs1 := kidS_ne i1 hWc h10c.symm
      have hsS : SubAt (kidS (W.upd cb (.cells [.int .i64 (c0 : Int)])) b10 b [.int .i64 k, .int .i64 n, .str s] (l0.map Tm.av)) c m q σ := by
        have h1 := (hWS.upd2 (o := .cells [.int .i64 (c0 : Int)]) hcb.1 hcb.2)
        exact ⟨by rw [kidS_ne i1 (by rw [h1.cells]; simp) h10cc.symm]; exact h1.cells, by rw [kidS_ne i1 (by rw [h1.map]; simp) h10m.symm]; exact h1.map⟩
      rw [Store.upd_same] at hs1
      simp -implicitDefEqProofs only [hlt', setCells, hdeep, List.length_map, ev_at (av := Tm.av) eI_27 hx (Tm.av_width x), Tm.av_agg, Tm.av_width, evb0, evb1, evb2, evb3, evb4, evb5, evb6, evb7, evb8, evb9, ↓evZ2, ↓evZ3, ↓Int.cast_ofNat_Int, implies_true, ne_eq, or_false, false_or, or_self, gt_iff_lt, isMut, aFn, List.contains, List.elem, aBox, aField, aLoad, sub, aNil, aPick, aExt, aFld, gd, noJunk, plainOp, aBuildSlice, aBuild, aFill, aParts, seqParts, fitAll, List.range', ↓reduceIte, reduceCtorEq, Nat.reduceEqDiff, Nat.reduceAdd, Nat.reduceLeDiff, Nat.reduceMul, Nat.reduceLT, Nat.reduceBEq, Int.reduceEq, tf_S5_171]
      refine (IH D' (Nat.lt_succ_self _) x c0 _ (by omega) (hcvs x hmem) (hsms x hmem) i2 hsS hs1).mono ?_
      rintro r s2 ⟨cnt', hcnt', rfl, hr⟩
      obtain ⟨e1, i1'⟩ := kidS_beside (o := .cells [.int .i64 (cnt' : Int)]) i1 hWc h10c.symm
      rw [e1, Store.upd_upd]
      rw [Store.upd_upd] at i1'
      have hnot : (ts.map (Tm.mapv R)) = l0 ++ (x.mapv R) :: (ts.drop (i + 1)).map (Tm.mapv R) := by rw [← hl0, ← List.map_cons, ← hdr', ← List.map_append, List.take_append_drop]
      by_cases hok : (x.mapv R).flat D' = true ∧ c0 + (x.mapv R).nodes ≤ 120
      · rw [if_pos hok] at hr
        obtain ⟨rfl, rfl⟩ := hr
        have hbo := kidS_c i1'
        simp -implicitDefEqProofs only [setCells, hdeep, List.length_map, ev_at (av := Tm.av) eI_27 hx (Tm.av_width x), Tm.av_agg, Tm.av_width, Tm.av_store, Tm.av_junk, hbo, accV_agg, accV_width, evb0, evb1, evb2, evb3, evb4, evb5, evb6, evb7, evb8, evb9, ↓evZ2, ↓evZ3, ↓Int.cast_ofNat_Int, implies_true, ne_eq, or_false, false_or, or_self, gt_iff_lt, isMut, aFn, List.contains, List.elem, aBox, aField, aLoad, sub, aNil, aPick, aExt, aFld, gd, noJunk, plainOp, aBuildSlice, aBuild, aFill, aParts, seqParts, fitAll, List.range', ↓reduceIte, reduceCtorEq, Nat.reduceEqDiff, Nat.reduceAdd, Nat.reduceLeDiff, Nat.reduceMul, Nat.reduceLT, Nat.reduceBEq, Int.reduceEq, tf_S5_171]
        refine acc_append eI_27 eB_27 eZ_27 rfl rfl (by intro e he; simp only [List.mem_cons, List.not_mem_nil, or_false] at he; subst he; exact ⟨Tm.av_width _, Tm.av_store _⟩) (tm_widths _) i1' (by simp only [hlen', List.length_cons, List.length_nil]; omega) (by simp only [hlen', List.length_cons, List.length_nil]; omega) (fun b' hb' => ?_)
        rw [show l0.map Tm.av ++ [(x.mapv R).av] = ((ts.take (i + 1)).map (Tm.mapv R)).map Tm.av by rw [htk]; simp] at hb' ⊢
        obtain ⟨g1, g2, g3⟩ := kidS_set hb'
        simp only [List.cons_append, List.nil_append] at g1 g3
        have hcc : cnt + 1 + sumL Tm.nodes ((ts.take (i + 1)).map (Tm.mapv R)) = c0 + (x.mapv R).nodes := by rw [htk, sumL_append, sumL, sumL, ← hc0]; omega
        simp -implicitDefEqProofs only [g3, accV_cells, accV_store, Nat.le_refl, g1, hw, setCells, hdeep, List.length_map, ev_at (av := Tm.av) eI_27 hx (Tm.av_width x), Tm.av_agg, Tm.av_width, Tm.av_store, Tm.av_junk, hbo, accV_agg, accV_width, evb0, evb1, evb2, evb3, evb4, evb5, evb6, evb7, evb8, evb9, ↓evZ2, ↓evZ3, ↓Int.cast_ofNat_Int, implies_true, ne_eq, or_false, false_or, or_self, gt_iff_lt, isMut, aFn, List.contains, List.elem, aBox, aField, aLoad, sub, aNil, aPick, aExt, aFld, gd, noJunk, plainOp, aBuildSlice, aBuild, aFill, aParts, seqParts, fitAll, List.range', ↓reduceIte, reduceCtorEq, Nat.reduceEqDiff, Nat.reduceAdd, Nat.reduceLeDiff, Nat.reduceMul, Nat.reduceLT, Nat.reduceBEq, Int.reduceEq, tf_S5_171]
        rw [hcc]
        exact ⟨b', ⟨g2, hok.2, by rw [htk, List.all_append, i3]; simp [hok.1]⟩, LessL.mk (by simp -implicitDefEqProofs only [setCells, hdeep, List.length_map, ev_at (av := Tm.av) eI_27 hx (Tm.av_width x), Tm.av_agg, Tm.av_width, Tm.av_store, Tm.av_junk, hbo, accV_agg, accV_width, evb0, evb1, evb2, evb3, evb4, evb5, evb6, evb7, evb8, evb9, ↓evZ2, ↓evZ3, ↓Int.cast_ofNat_Int, implies_true, ne_eq, or_false, false_or, or_self, gt_iff_lt, isMut, aFn, List.contains, List.elem, aBox, aField, aLoad, sub, aNil, aPick, aExt, aFld, gd, noJunk, plainOp, aBuildSlice, aBuild, aFill, aParts, seqParts, fitAll, List.range', ↓reduceIte, reduceCtorEq, Nat.reduceEqDiff, Nat.reduceAdd, Nat.reduceLeDiff, Nat.reduceMul, Nat.reduceLT, Nat.reduceBEq, Int.reduceEq, tf_S5_171])⟩
      · rw [if_neg hok] at hr
        subst hr
        obtain ⟨e2, i2'⟩ := kidS_beside (x := b8) (o := .cells [.int .i64 0, .int .i64 0, .str ⟨#[]⟩, .fslice []]) i1' (by rw [Store.upd_ne _ _ hb8.symm, hW8]; simp) h108.symm
        have h8o := kidS_ne i1' (x := b8) (by rw [Store.upd_ne _ _ hb8.symm, hW8]; simp) h108.symm
        rw [Store.upd_ne _ _ hb8.symm, hW8] at h8o
        simp -implicitDefEqProofs only [setCells, hdeep, List.length_map, Tm.av_agg, Tm.av_width, Tm.av_store, Tm.av_junk, h8o, Tm.zero, Tm.av_mk, List.map_nil, evb0, evb1, evb2, evb3, evb4, evb5, evb6, evb7, evb8, evb9, ↓evZ2, ↓evZ3, ↓Int.cast_ofNat_Int, implies_true, ne_eq, or_false, false_or, or_self, gt_iff_lt, isMut, aFn, List.contains, List.elem, aBox, aField, aLoad, sub, aNil, aPick, aExt, aFld, gd, noJunk, plainOp, aBuildSlice, aBuild, aFill, aParts, seqParts, fitAll, List.range', ↓reduceIte, reduceCtorEq, Nat.reduceEqDiff, Nat.reduceAdd, Nat.reduceLeDiff, Nat.reduceMul, Nat.reduceLT, Nat.reduceBEq, Int.reduceEq, tf_S5_171]
        rw [e2]
        refine hfail _ cnt' hcnt' (kidS_gone (hWd _ _ _) i2') ?_
        rw [Tm.nodes_mk, Tm.flat_succ, hnot, List.all_append, List.all_cons, sumL_append, sumL]
        rintro ⟨h3, h4⟩
        simp only [Bool.and_eq_true] at h3
        exact hok ⟨h3.2.1, by omega⟩
    · obtain ⟨i1, i2, i3⟩ := hinv
      rw [List.take_length] at i1 i2 i3 ⊢
      have hbo := kidS_c i1
      have hx8 : (W.upd cb (.cells [.int .i64 ((cnt + 1 + sumL Tm.nodes (ts.map (Tm.mapv R)) : Nat) : Int)])) b8 ≠ none := by rw [Store.upd_ne _ _ hb8.symm, hW8]; simp
      have h8o := kidS_ne i1 (x := b8) hx8 h108.symm
      rw [Store.upd_ne _ _ hb8.symm, hW8] at h8o
      simp -implicitDefEqProofs only [setCells, hdeep, List.length_map, hge, hbo, h8o, accV_store, evb0, evb1, evb2, evb3, evb4, evb5, evb6, evb7, evb8, evb9, ↓evZ2, ↓evZ3, ↓Int.cast_ofNat_Int, implies_true, ne_eq, or_false, false_or, or_self, gt_iff_lt, isMut, aFn, List.contains, List.elem, aBox, aField, aLoad, sub, aNil, aPick, aExt, aFld, gd, noJunk, plainOp, aBuildSlice, aBuild, aFill, aParts, seqParts, fitAll, List.range', ↓reduceIte, reduceCtorEq, Nat.reduceEqDiff, Nat.reduceAdd, Nat.reduceLeDiff, Nat.reduceMul, Nat.reduceLT, Nat.reduceBEq, Int.reduceEq, tf_S5_171]
      obtain ⟨h5, h6⟩ := kidS_upd (o := .cells [.int .i64 k, .int .i64 n, .str s, accV 4 b ((ts.map (Tm.mapv R)).map Tm.av)]) i1 hx8 h108.symm
      have hsum : cnt + (Tm.mk k n s (ts.map (Tm.mapv R))).nodes = cnt + 1 + sumL Tm.nodes (ts.map (Tm.mapv R)) := by rw [Tm.nodes_mk]; omega
      refine ⟨b, _, _, h5, h6, tm_junk _, ⟨4, tm_widths _⟩, _, ?_, _, Nat.le_succ_of_le i2, rfl, ?_⟩
      · rw [Store.upd_comm _ _ _ h108]
        exact hWd _ _ _
      · rw [if_pos ⟨by rw [Tm.flat_succ]; exact i3, by rw [hsum]; exact i2⟩, hsum]
        refine ⟨?_, rfl⟩
        simp only [fin_tup, fin_agg, List.map_cons, List.map_nil, fin_int, fin_str, fin_bool, accV_fin, Tm.av_mk]
termination_by D => D
decreasing_by exact hlt
end Go.AW
