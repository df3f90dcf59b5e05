import Derived.Test.YtccofeljgfmplaaUgFinl
import Derived.Test.YtccofeljgfmplaaUgFink
import Derived.Test.YtccofeljgfmplaaUgFinj

/- Variables of lists of terms: what the functions return. -/
namespace Go.AW
open Go.Proofs.Try
set_option linter.unusedSimpArgs false
set_option maxRecDepth 100000

theorem tf_V4_165 : (type_of% tI_2) ∧ (type_of% zI_2) ∧ (type_of% Go.Proofs.Try.underlying2) ∧ (type_of% tI_3) ∧ (type_of% zI_3) ∧ (type_of% Go.Proofs.Try.underlying3) ∧ (type_of% tI_4) ∧ (type_of% zI_4) ∧ (type_of% Go.Proofs.Try.underlying4) ∧ (type_of% tI_5) ∧ (type_of% zI_5) ∧ (type_of% Go.Proofs.Try.underlying5) ∧ (type_of% tI_6) ∧ (type_of% zI_6) ∧ (type_of% Go.Proofs.Try.underlying6) ∧ (type_of% tI_7) ∧ (type_of% zI_7) ∧ (type_of% fI_7_0) ∧ (type_of% fI_7_1) ∧ (type_of% fI_7_2) ∧ (type_of% fI_7_3) ∧ (type_of% bI_7) ∧ (type_of% tI_8) ∧ (type_of% zI_8) ∧ (type_of% fI_8_0) ∧ (type_of% fI_8_1) ∧ (type_of% fI_8_2) ∧ (type_of% fI_8_3) ∧ (type_of% bI_8) ∧ (type_of% tI_9) ∧ (type_of% zI_9) ∧ (type_of% Go.Proofs.Try.underlying9) ∧ (type_of% tI_10) ∧ (type_of% zI_10) ∧ (type_of% Go.Proofs.Try.underlying10) ∧ (type_of% tI_11) ∧ (type_of% zI_11) ∧ (type_of% Go.Proofs.Try.underlying11) ∧ (type_of% tI_12) ∧ (type_of% zI_12) ∧ (type_of% Go.Proofs.Try.underlying12) ∧ (type_of% tI_23) ∧ (type_of% zI_23) ∧ (type_of% fI_23_0) ∧ (type_of% bI_23) ∧ (type_of% tI_24) ∧ (type_of% zI_24) ∧ (type_of% fI_24_0) ∧ (type_of% bI_24) ∧ (type_of% tI_27) ∧ (type_of% zI_27) ∧ (type_of% eI_27) ∧ (type_of% eB_27) ∧ (type_of% eZ_27) ∧ (type_of% Go.Proofs.Try.underlying27) ∧ (type_of% tI_31) ∧ (type_of% zI_31) ∧ (type_of% fI_31_0) ∧ (type_of% bI_31) ∧ (type_of% tI_32) ∧ (type_of% zI_32) ∧ (type_of% fI_32_0) ∧ (type_of% bI_32) ∧ (type_of% tI_41) ∧ (type_of% zI_41) ∧ (type_of% fI_41_0) ∧ (type_of% fI_41_1) ∧ (type_of% fI_41_2) ∧ (type_of% fI_41_3) ∧ (type_of% bI_41) ∧ (type_of% tI_44) ∧ (type_of% zI_44) ∧ (type_of% eI_44) ∧ (type_of% eB_44) ∧ (type_of% eZ_44) ∧ (type_of% Go.Proofs.Try.underlying44) ∧ (type_of% tI_64) ∧ (type_of% zI_64) ∧ (type_of% fI_64_0) ∧ (type_of% fI_64_1) ∧ (type_of% bI_64) ∧ (type_of% tI_93) ∧ (type_of% zI_93) ∧ (type_of% eI_93) ∧ (type_of% eB_93) ∧ (type_of% eZ_93) ∧ (type_of% Go.Proofs.Try.underlying93) := ⟨tI_2, zI_2, Go.Proofs.Try.underlying2, tI_3, zI_3, Go.Proofs.Try.underlying3, tI_4, zI_4, Go.Proofs.Try.underlying4, tI_5, zI_5, Go.Proofs.Try.underlying5, tI_6, zI_6, Go.Proofs.Try.underlying6, tI_7, zI_7, fI_7_0, fI_7_1, fI_7_2, fI_7_3, bI_7, tI_8, zI_8, fI_8_0, fI_8_1, fI_8_2, fI_8_3, bI_8, tI_9, zI_9, Go.Proofs.Try.underlying9, tI_10, zI_10, Go.Proofs.Try.underlying10, tI_11, zI_11, Go.Proofs.Try.underlying11, tI_12, zI_12, Go.Proofs.Try.underlying12, tI_23, zI_23, fI_23_0, bI_23, tI_24, zI_24, fI_24_0, bI_24, tI_27, zI_27, eI_27, eB_27, eZ_27, Go.Proofs.Try.underlying27, tI_31, zI_31, fI_31_0, bI_31, tI_32, zI_32, fI_32_0, bI_32, tI_41, zI_41, fI_41_0, fI_41_1, fI_41_2, fI_41_3, bI_41, tI_44, zI_44, eI_44, eB_44, eZ_44, Go.Proofs.Try.underlying44, tI_64, zI_64, fI_64_0, fI_64_1, bI_64, tI_93, zI_93, eI_93, eB_93, eZ_93, Go.Proofs.Try.underlying93⟩
theorem c_l1Vars : ∀ (t : Tm) (l : List Int) (b : Nat) (st : Store), t.wf = true → (l.map iv ≠ [] → st b = none) → l.length + t.nodes ≤ 1099511627776 → ACalls prog 165 [accV 1 b (l.map iv), t.av] (accS st b (l.map iv)) (Grown st (t.vars l))
  | .mk k n s ts, l, b, st, hwf, hb, hsz => by
    obtain ⟨hk, hwfs⟩ := Tm.wf_mk hwf
    have IH := fun (x : Tm) (hx : x ∈ ts) l b st => c_l1Vars x l b st (hwfs x hx)
    have haL := accV_len (w := 1) (b := b) (l := l.map iv) underlying93
    simp only [Tm.vars]
    rw [Tm.nodes_mk] at hsz
    refine acalls_fit [] func165 ntmps165 rfl rfl (by kernel_rfl) (by decide +kernel) (by show 2 ≤ _; decide +kernel) ?_
    simp only [Tm.av_mk, fitsL, AV.fits, and_true, List.length_map]
    intro ⟨_, ⟨_, _, _, hl, _⟩⟩
    simp -implicitDefEqProofs only [evb0, evb1, evb2, evb3, evb4, evb5, evb6, evb7, evb8, evb9, ↓evZ2, ↓evZ3, ↓Int.cast_ofNat_Int, implies_true, ne_eq, or_false, false_or, or_self, gt_iff_lt, isMut, aFn, List.contains, List.elem, aBox, aField, aLoad, sub, aNil, aPick, aExt, aFld, gd, noJunk, plainOp, aBuildSlice, aBuild, aFill, aParts, seqParts, fitAll, List.range', ↓reduceIte, reduceCtorEq, Nat.reduceEqDiff, Nat.reduceAdd, Nat.reduceLeDiff, Nat.reduceMul, Nat.reduceLT, Nat.reduceBEq, Int.reduceEq, tf_V4_165]
    refine cond_split (fun h => ?_) (fun h => ?_)
    · simp only [decide_eq_true_eq] at h
      obtain rfl := hk h
      subst h
      simp -implicitDefEqProofs only [evb0, evb1, evb2, evb3, evb4, evb5, evb6, evb7, evb8, evb9, ↓evZ2, ↓evZ3, ↓Int.cast_ofNat_Int, implies_true, ne_eq, or_false, false_or, or_self, gt_iff_lt, isMut, aFn, List.contains, List.elem, aBox, aField, aLoad, sub, aNil, aPick, aExt, aFld, gd, noJunk, plainOp, aBuildSlice, aBuild, aFill, aParts, seqParts, fitAll, List.range', ↓reduceIte, reduceCtorEq, Nat.reduceEqDiff, Nat.reduceAdd, Nat.reduceLeDiff, Nat.reduceMul, Nat.reduceLT, Nat.reduceBEq, Int.reduceEq, tf_V4_165]
      have hnn : l.length ≤ 1099511627776 := by omega
      refine arun_each (σ := Unit) [] [0, 3] l (fun i _ => ∀ y ∈ l.take i, y ≠ n) (fun i _ => [(5, .int .i64 i)]) (fun _ _ => accS st b (l.map iv)) (by decide +kernel) ⟨(), by simp, LessL.mk (by simp -implicitDefEqProofs only [evb0, evb1, evb2, evb3, evb4, evb5, evb6, evb7, evb8, evb9, ↓evZ2, ↓evZ3, ↓Int.cast_ofNat_Int, implies_true, ne_eq, or_false, false_or, or_self, gt_iff_lt, isMut, aFn, List.contains, List.elem, aBox, aField, aLoad, sub, aNil, aPick, aExt, aFld, gd, noJunk, plainOp, aBuildSlice, aBuild, aFill, aParts, seqParts, fitAll, List.range', ↓reduceIte, reduceCtorEq, Nat.reduceEqDiff, Nat.reduceAdd, Nat.reduceLeDiff, Nat.reduceMul, Nat.reduceLT, Nat.reduceBEq, Int.reduceEq, tf_V4_165])⟩ (fun i x _ hx hlt hlt' hdr hinv => ?_) (fun _ hge hinv => ?_)
      case refine_2 =>
        rw [List.take_length] at hinv
        have hmem : n ∉ l := fun h => hinv n h rfl
        simp -implicitDefEqProofs only [haL, List.length_map, hge, evb0, evb1, evb2, evb3, evb4, evb5, evb6, evb7, evb8, evb9, ↓evZ2, ↓evZ3, ↓Int.cast_ofNat_Int, implies_true, ne_eq, or_false, false_or, or_self, gt_iff_lt, isMut, aFn, List.contains, List.elem, aBox, aField, aLoad, sub, aNil, aPick, aExt, aFld, gd, noJunk, plainOp, aBuildSlice, aBuild, aFill, aParts, seqParts, fitAll, List.range', ↓reduceIte, reduceCtorEq, Nat.reduceEqDiff, Nat.reduceAdd, Nat.reduceLeDiff, Nat.reduceMul, Nat.reduceLT, Nat.reduceBEq, Int.reduceEq, tf_V4_165]
        refine acc_append eI_93 eB_93 eZ_93 rfl rfl (by intro e he; simp only [List.mem_cons, List.not_mem_nil, or_false] at he; subst he; exact ⟨rfl, rfl⟩) (iv_widths l) hb (by simp; omega) (by simp; omega) (fun b' hb' => ?_)
        rw [show l.map iv ++ [AV.int .i64 n] = (l ++ [n]).map iv by simp] at hb' ⊢
        simp -implicitDefEqProofs only [evb0, evb1, evb2, evb3, evb4, evb5, evb6, evb7, evb8, evb9, ↓evZ2, ↓evZ3, ↓Int.cast_ofNat_Int, implies_true, ne_eq, or_false, false_or, or_self, gt_iff_lt, isMut, aFn, List.contains, List.elem, aBox, aField, aLoad, sub, aNil, aPick, aExt, aFld, gd, noJunk, plainOp, aBuildSlice, aBuild, aFill, aParts, seqParts, fitAll, List.range', ↓reduceIte, reduceCtorEq, Nat.reduceEqDiff, Nat.reduceAdd, Nat.reduceLeDiff, Nat.reduceMul, Nat.reduceLT, Nat.reduceBEq, Int.reduceEq, tf_V4_165]
        exact ⟨b', by simp [tmsVars, hmem], by simp [tmsVars, hmem], by simp only [tmsVars, hmem, not_false_eq_true, and_self, if_true]; exact hb'⟩
      have hat := acc_at (b := b) (l := l.map iv) (i := i) (x := iv x) eI_93 (by rw [List.getElem?_map, hx]; rfl)
      obtain ⟨hblk, hget⟩ := acc_blk (st := st) (b := b) hx
      have hw := wrap64 (n := (i : Int) + 1) (by omega) (by omega)
      simp -implicitDefEqProofs only [haL, List.length_map, hlt', evb0, evb1, evb2, evb3, evb4, evb5, evb6, evb7, evb8, evb9, ↓evZ2, ↓evZ3, ↓Int.cast_ofNat_Int, implies_true, ne_eq, or_false, false_or, or_self, gt_iff_lt, isMut, aFn, List.contains, List.elem, aBox, aField, aLoad, sub, aNil, aPick, aExt, aFld, gd, noJunk, plainOp, aBuildSlice, aBuild, aFill, aParts, seqParts, fitAll, List.range', ↓reduceIte, reduceCtorEq, Nat.reduceEqDiff, Nat.reduceAdd, Nat.reduceLeDiff, Nat.reduceMul, Nat.reduceLT, Nat.reduceBEq, Int.reduceEq, tf_V4_165]
      refine arun_drawA mixed (by decide +kernel) (by decide +kernel) ?_
      simp -implicitDefEqProofs only [hat, hblk, hget, Nat.mul_one, evb0, evb1, evb2, evb3, evb4, evb5, evb6, evb7, evb8, evb9, ↓evZ2, ↓evZ3, ↓Int.cast_ofNat_Int, implies_true, ne_eq, or_false, false_or, or_self, gt_iff_lt, isMut, aFn, List.contains, List.elem, aBox, aField, aLoad, sub, aNil, aPick, aExt, aFld, gd, noJunk, plainOp, aBuildSlice, aBuild, aFill, aParts, seqParts, fitAll, List.range', ↓reduceIte, reduceCtorEq, Nat.reduceEqDiff, Nat.reduceAdd, Nat.reduceLeDiff, Nat.reduceMul, Nat.reduceLT, Nat.reduceBEq, Int.reduceEq, tf_V4_165]
      refine cond_split (fun h => ?_) (fun h => ?_)
      · simp only [decide_eq_true_eq] at h
        subst h
        have hmem := List.mem_of_getElem? hx
        simp -implicitDefEqProofs only [evb0, evb1, evb2, evb3, evb4, evb5, evb6, evb7, evb8, evb9, ↓evZ2, ↓evZ3, ↓Int.cast_ofNat_Int, implies_true, ne_eq, or_false, false_or, or_self, gt_iff_lt, isMut, aFn, List.contains, List.elem, aBox, aField, aLoad, sub, aNil, aPick, aExt, aFld, gd, noJunk, plainOp, aBuildSlice, aBuild, aFill, aParts, seqParts, fitAll, List.range', ↓reduceIte, reduceCtorEq, Nat.reduceEqDiff, Nat.reduceAdd, Nat.reduceLeDiff, Nat.reduceMul, Nat.reduceLT, Nat.reduceBEq, Int.reduceEq, tf_V4_165]
        exact ⟨b, by simp [tmsVars, hmem], by simp [tmsVars, hmem], by simp only [tmsVars, hmem, not_true_eq_false, and_false, if_false]; exact hb⟩
      · simp only [decide_eq_false_iff_not] at h
        simp -implicitDefEqProofs only [evb0, evb1, evb2, evb3, evb4, evb5, evb6, evb7, evb8, evb9, ↓evZ2, ↓evZ3, ↓Int.cast_ofNat_Int, implies_true, ne_eq, or_false, false_or, or_self, gt_iff_lt, isMut, aFn, List.contains, List.elem, aBox, aField, aLoad, sub, aNil, aPick, aExt, aFld, gd, noJunk, plainOp, aBuildSlice, aBuild, aFill, aParts, seqParts, fitAll, List.range', ↓reduceIte, reduceCtorEq, Nat.reduceEqDiff, Nat.reduceAdd, Nat.reduceLeDiff, Nat.reduceMul, Nat.reduceLT, Nat.reduceBEq, Int.reduceEq, tf_V4_165]
        refine ⟨(), ?_, LessL.mk (by simp -implicitDefEqProofs only [hw, evb0, evb1, evb2, evb3, evb4, evb5, evb6, evb7, evb8, evb9, ↓evZ2, ↓evZ3, ↓Int.cast_ofNat_Int, implies_true, ne_eq, or_false, false_or, or_self, gt_iff_lt, isMut, aFn, List.contains, List.elem, aBox, aField, aLoad, sub, aNil, aPick, aExt, aFld, gd, noJunk, plainOp, aBuildSlice, aBuild, aFill, aParts, seqParts, fitAll, List.range', ↓reduceIte, reduceCtorEq, Nat.reduceEqDiff, Nat.reduceAdd, Nat.reduceLeDiff, Nat.reduceMul, Nat.reduceLT, Nat.reduceBEq, Int.reduceEq, tf_V4_165])⟩
        intro y hy
        rw [List.take_add_one, hx] at hy
        rcases List.mem_append.1 hy with hy | hy
        · exact hinv y hy
        · simp at hy; subst hy; exact h
    · simp only [decide_eq_false_iff_not] at h
      rw [if_neg (by simp [h])]
      simp -implicitDefEqProofs only [evb0, evb1, evb2, evb3, evb4, evb5, evb6, evb7, evb8, evb9, ↓evZ2, ↓evZ3, ↓Int.cast_ofNat_Int, implies_true, ne_eq, or_false, false_or, or_self, gt_iff_lt, isMut, aFn, List.contains, List.elem, aBox, aField, aLoad, sub, aNil, aPick, aExt, aFld, gd, noJunk, plainOp, aBuildSlice, aBuild, aFill, aParts, seqParts, fitAll, List.range', ↓reduceIte, reduceCtorEq, Nat.reduceEqDiff, Nat.reduceAdd, Nat.reduceLeDiff, Nat.reduceMul, Nat.reduceLT, Nat.reduceBEq, Int.reduceEq, tf_V4_165]
      refine arun_each (σ := List Int × Nat) [] [3, 4] ts (fun i p => tmsVars (ts.drop i) p.1 = tmsVars ts l ∧ p.1.length + sumL Tm.nodes (ts.drop i) ≤ 1099511627776 ∧ (p.1.map iv ≠ [] → st p.2 = none)) (fun i p => [(0, accV 1 p.2 (p.1.map iv)), (6, .int .i64 i)]) (fun _ p => accS st p.2 (p.1.map iv)) (by decide +kernel)
        ⟨(l, b), ⟨rfl, by simp; omega, hb⟩, LessL.mk (by simp -implicitDefEqProofs only [List.length_map, evb0, evb1, evb2, evb3, evb4, evb5, evb6, evb7, evb8, evb9, ↓evZ2, ↓evZ3, ↓Int.cast_ofNat_Int, implies_true, ne_eq, or_false, false_or, or_self, gt_iff_lt, isMut, aFn, List.contains, List.elem, aBox, aField, aLoad, sub, aNil, aPick, aExt, aFld, gd, noJunk, plainOp, aBuildSlice, aBuild, aFill, aParts, seqParts, fitAll, List.range', ↓reduceIte, reduceCtorEq, Nat.reduceEqDiff, Nat.reduceAdd, Nat.reduceLeDiff, Nat.reduceMul, Nat.reduceLT, Nat.reduceBEq, Int.reduceEq, tf_V4_165])⟩ (fun i x p hx hlt hlt' hdr hinv => ?_) (fun p hge hinv => ?_)
      case refine_2 =>
        simp -implicitDefEqProofs only [List.length_map, hge, evb0, evb1, evb2, evb3, evb4, evb5, evb6, evb7, evb8, evb9, ↓evZ2, ↓evZ3, ↓Int.cast_ofNat_Int, implies_true, ne_eq, or_false, false_or, or_self, gt_iff_lt, isMut, aFn, List.contains, List.elem, aBox, aField, aLoad, sub, aNil, aPick, aExt, aFld, gd, noJunk, plainOp, aBuildSlice, aBuild, aFill, aParts, seqParts, fitAll, List.range', ↓reduceIte, reduceCtorEq, Nat.reduceEqDiff, Nat.reduceAdd, Nat.reduceLeDiff, Nat.reduceMul, Nat.reduceLT, Nat.reduceBEq, Int.reduceEq, tf_V4_165]
        rw [← hinv.1, List.drop_length]
        exact ⟨p.2, rfl, rfl, hinv.2.2⟩
      obtain ⟨acc, b⟩ := p
      rw [hdr] at hinv
      obtain ⟨i1, i2, i3⟩ := hinv
      simp only [sumL] at i2
      have hw := wrap64 (n := (i : Int) + 1) (by omega) (by omega)
      simp -implicitDefEqProofs only [List.length_map, hlt', ev_at (av := Tm.av) eI_27 hx (Tm.av_width x), Tm.av_agg, Tm.av_width, evb0, evb1, evb2, evb3, evb4, evb5, evb6, evb7, evb8, evb9, ↓evZ2, ↓evZ3, ↓Int.cast_ofNat_Int, implies_true, ne_eq, or_false, false_or, or_self, gt_iff_lt, isMut, aFn, List.contains, List.elem, aBox, aField, aLoad, sub, aNil, aPick, aExt, aFld, gd, noJunk, plainOp, aBuildSlice, aBuild, aFill, aParts, seqParts, fitAll, List.range', ↓reduceIte, reduceCtorEq, Nat.reduceEqDiff, Nat.reduceAdd, Nat.reduceLeDiff, Nat.reduceMul, Nat.reduceLT, Nat.reduceBEq, Int.reduceEq, tf_V4_165]
      refine (IH x (List.mem_of_getElem? hx) acc b st i3 (by omega)).mono ?_
      rintro _ _ ⟨b', rfl, rfl, hb'⟩
      have hvl := Tm.vars_len x acc
      simp -implicitDefEqProofs only [hw, evb0, evb1, evb2, evb3, evb4, evb5, evb6, evb7, evb8, evb9, ↓evZ2, ↓evZ3, ↓Int.cast_ofNat_Int, implies_true, ne_eq, or_false, false_or, or_self, gt_iff_lt, isMut, aFn, List.contains, List.elem, aBox, aField, aLoad, sub, aNil, aPick, aExt, aFld, gd, noJunk, plainOp, aBuildSlice, aBuild, aFill, aParts, seqParts, fitAll, List.range', ↓reduceIte, reduceCtorEq, Nat.reduceEqDiff, Nat.reduceAdd, Nat.reduceLeDiff, Nat.reduceMul, Nat.reduceLT, Nat.reduceBEq, Int.reduceEq, tf_V4_165]
      exact ⟨(x.vars acc, b'), ⟨i1, by simp only; omega, hb'⟩, LessL.mk (by simp -implicitDefEqProofs only [evb0, evb1, evb2, evb3, evb4, evb5, evb6, evb7, evb8, evb9, ↓evZ2, ↓evZ3, ↓Int.cast_ofNat_Int, implies_true, ne_eq, or_false, false_or, or_self, gt_iff_lt, isMut, aFn, List.contains, List.elem, aBox, aField, aLoad, sub, aNil, aPick, aExt, aFld, gd, noJunk, plainOp, aBuildSlice, aBuild, aFill, aParts, seqParts, fitAll, List.range', ↓reduceIte, reduceCtorEq, Nat.reduceEqDiff, Nat.reduceAdd, Nat.reduceLeDiff, Nat.reduceMul, Nat.reduceLT, Nat.reduceBEq, Int.reduceEq, tf_V4_165])⟩
termination_by t => SizeOf.sizeOf t
decreasing_by have := List.sizeOf_lt_of_mem hx; simp only [Tm.mk.sizeOf_spec]; omega
end Go.AW


/- The reference's bindings: walking. -/
namespace Go.AW
open Go.Proofs.Try
set_option linter.unusedSimpArgs false
set_option maxRecDepth 100000

abbrev OkA (t : Tm) : Prop := t.okA = true
theorem arr_reads {A C B : List AV} {n : Nat} (hA : A.length = n) (hC : C.length = 4) :
    (n + 4 ≤ (A ++ C ++ B).length) ∧ List.take 4 (List.drop n (A ++ C ++ B)) = C ∧ (A ++ C ++ B)[n + 0]? = C[0]? := by
  refine ⟨by simp only [List.length_append]; omega, ?_, (midE (A := A) (B := B) hA).2.2.1 C 0 (by omega)⟩
  rw [← hA, List.append_assoc, List.drop_left, ← hC, List.take_left]
/-- One place of the reference's bindings, as it is read. -/
theorem ArrAt.none {st : Store} {b : Nat} {σ : Sub} (h : ArrAt st b σ) {i : Nat} (hi : i < 26) (hn : σ (i : Int) = Option.none) :
    ∃ D, st b = some (.cells D) ∧ D[i * 4 + 0]? = some (.int .i64 0) ∧ i * 4 + 4 ≤ D.length := by
  obtain ⟨A, B, e1, e2, _⟩ := h.mid hi
  rw [hn] at e1
  obtain ⟨r1, r2, r3⟩ := arr_reads (B := B) (C := (cellOf Option.none).cells) e2 rfl
  exact ⟨_, e1, r3, r1⟩
theorem ArrAt.some {st : Store} {b : Nat} {σ : Sub} (h : ArrAt st b σ) {i : Nat} (hi : i < 26) {k n : Int} {s : ByteArray} {ts : List Tm} (hn : σ (i : Int) = Option.some (.mk k n s ts)) :
    ∃ D, st b = Option.some (.cells D) ∧ D[i * 4 + 0]? = Option.some (.int .i64 k) ∧ i * 4 + 4 ≤ D.length ∧ List.take 4 (List.drop (i * 4) D) = [.int .i64 k, .int .i64 n, .str s, .slice (ts.map Tm.av)] := by
  obtain ⟨A, B, e1, e2, _⟩ := h.mid hi
  rw [hn] at e1
  simp only [cellOf, Tm.av_mk, AV.cells] at e1
  obtain ⟨r1, r2, r3⟩ := arr_reads (B := B) (C := [.int .i64 k, .int .i64 n, .str s, .slice (ts.map Tm.av)]) e2 rfl
  exact ⟨_, e1, r3, r1, r2⟩
theorem ArrAt.set {st : Store} {b : Nat} {σ : Sub} (h : ArrAt st b σ) {i : Nat} (hi : i < 26) (u : Tm) :
    ∃ D D', st b = Option.some (.cells D) ∧ i * 4 + 4 ≤ D.length ∧ setCells D (i * 4) u.av.cells = D' ∧ ArrAt (st.upd b (.cells D')) b (σ.set (i : Int) u) := by
  obtain ⟨A, B, e1, e2, e3⟩ := h.mid hi
  obtain ⟨p1, p2⟩ := partE (B := B) (C := (cellOf (σ (i : Int))).cells) (x := u.av.cells) e2 (cellOf_cells _) (Tm.av_cells u)
  exact ⟨_, _, e1, p2, p1, e3 u⟩

theorem tf_P1_127 : (type_of% tI_2) ∧ (type_of% zI_2) ∧ (type_of% Go.Proofs.Try.underlying2) ∧ (type_of% tI_3) ∧ (type_of% zI_3) ∧ (type_of% Go.Proofs.Try.underlying3) ∧ (type_of% tI_4) ∧ (type_of% zI_4) ∧ (type_of% Go.Proofs.Try.underlying4) ∧ (type_of% tI_5) ∧ (type_of% zI_5) ∧ (type_of% Go.Proofs.Try.underlying5) ∧ (type_of% tI_6) ∧ (type_of% zI_6) ∧ (type_of% Go.Proofs.Try.underlying6) ∧ (type_of% tI_7) ∧ (type_of% zI_7) ∧ (type_of% fI_7_0) ∧ (type_of% fI_7_1) ∧ (type_of% fI_7_2) ∧ (type_of% fI_7_3) ∧ (type_of% bI_7) ∧ (type_of% tI_10) ∧ (type_of% zI_10) ∧ (type_of% Go.Proofs.Try.underlying10) ∧ (type_of% tI_11) ∧ (type_of% zI_11) ∧ (type_of% Go.Proofs.Try.underlying11) ∧ (type_of% tI_12) ∧ (type_of% zI_12) ∧ (type_of% Go.Proofs.Try.underlying12) ∧ (type_of% tI_27) ∧ (type_of% zI_27) ∧ (type_of% eI_27) ∧ (type_of% eB_27) ∧ (type_of% eZ_27) ∧ (type_of% Go.Proofs.Try.underlying27) ∧ (type_of% tI_41) ∧ (type_of% zI_41) ∧ (type_of% fI_41_0) ∧ (type_of% fI_41_1) ∧ (type_of% fI_41_2) ∧ (type_of% fI_41_3) ∧ (type_of% bI_41) ∧ (type_of% tI_64) ∧ (type_of% zI_64) ∧ (type_of% fI_64_0) ∧ (type_of% fI_64_1) ∧ (type_of% bI_64) := ⟨tI_2, zI_2, Go.Proofs.Try.underlying2, tI_3, zI_3, Go.Proofs.Try.underlying3, tI_4, zI_4, Go.Proofs.Try.underlying4, tI_5, zI_5, Go.Proofs.Try.underlying5, tI_6, zI_6, Go.Proofs.Try.underlying6, tI_7, zI_7, fI_7_0, fI_7_1, fI_7_2, fI_7_3, bI_7, tI_10, zI_10, Go.Proofs.Try.underlying10, tI_11, zI_11, Go.Proofs.Try.underlying11, tI_12, zI_12, Go.Proofs.Try.underlying12, tI_27, zI_27, eI_27, eB_27, eZ_27, Go.Proofs.Try.underlying27, tI_41, zI_41, fI_41_0, fI_41_1, fI_41_2, fI_41_3, bI_41, tI_64, zI_64, fI_64_0, fI_64_1, bI_64⟩
theorem c_l3Walk {σ : Sub} (hok : AllS OkA σ) {f : Nat} {t u : Tm} (hw : WkN σ f t u) (ht : OkA t) (b : Nat) (st : Store) (hS : ArrAt st b σ) : ACalls prog 127 [t.av, .mslice b 0 26 4] st (fun r st' => r = u.av ∧ st' = st) := by
  refine ACalls.done ?_
  refine acalls_fit [1000000, 2] func127 ntmps127 rfl rfl (by kernel_rfl) (by decide +kernel) (by show 2 ≤ _; decide +kernel) ?_
  intro _
  simp -implicitDefEqProofs only [setCells, evb0, evb1, evb2, evb3, evb4, evb5, evb6, evb7, evb8, evb9, ↓evZ2, ↓evZ3, ↓Int.cast_ofNat_Int, implies_true, ne_eq, or_false, false_or, or_self, gt_iff_lt, isMut, aFn, List.contains, List.elem, aBox, aField, aLoad, sub, aNil, aPick, aExt, aFld, gd, noJunk, plainOp, aBuildSlice, aBuild, aFill, aParts, seqParts, fitAll, List.range', ↓reduceIte, reduceCtorEq, Nat.reduceEqDiff, Nat.reduceAdd, Nat.reduceLeDiff, Nat.reduceMul, Nat.reduceLT, Nat.reduceBEq, Int.reduceEq, tf_P1_127]
  intro b2 h2 b4 h4
  have hne : b4 ≠ b2 := by rintro rfl; rw [Store.upd_same] at h4; cases h4
  have hn4 : st b4 = none := by rw [Store.upd_ne st _ hne] at h4; exact h4
  have hb2 : b2 ≠ b := by rintro rfl; rw [ArrAt, h2] at hS; cases hS
  have hb4 : b4 ≠ b := by rintro rfl; rw [ArrAt, hn4] at hS; cases hS
  refine arun_whileK (σ := Nat × Tm) [1000000, 2] [1, 2, 4] (fun p => WkN σ p.1 p.2 u ∧ OkA p.2) (fun p => []) (fun p => (st.upd b2 (.cells p.2.av.cells)).upd b4 (.cells [.int .i64 0, .int .i64 0, .str ⟨#[]⟩, .fslice []])) (fun p => p.1) (by decide +kernel) ⟨(f, t), ⟨hw, ht⟩, LessL.mk (by simp -implicitDefEqProofs only [setCells, evb0, evb1, evb2, evb3, evb4, evb5, evb6, evb7, evb8, evb9, ↓evZ2, ↓evZ3, ↓Int.cast_ofNat_Int, implies_true, ne_eq, or_false, false_or, or_self, gt_iff_lt, isMut, aFn, List.contains, List.elem, aBox, aField, aLoad, sub, aNil, aPick, aExt, aFld, gd, noJunk, plainOp, aBuildSlice, aBuild, aFill, aParts, seqParts, fitAll, List.range', ↓reduceIte, reduceCtorEq, Nat.reduceEqDiff, Nat.reduceAdd, Nat.reduceLeDiff, Nat.reduceMul, Nat.reduceLT, Nat.reduceBEq, Int.reduceEq, tf_P1_127])⟩ ?_
  rintro ⟨g, t⟩ ⟨hw, ht⟩
  obtain ⟨k, n, s, ts⟩ := t
  simp only at hw ht
  simp only [Tm.av_mk]
  have hend : k ≠ 1 ∨ σ n = none → u = .mk k n s ts := fun h => by
    cases hw with
    | stop _ => rfl
    | go h1 h2 _ =>
      simp only [Tm.k] at h1
      rcases h with h | h
      · exact absurd h1 h
      · rw [show σ n = some _ from h2] at h; cases h
  simp -implicitDefEqProofs only [setCells, hne, hne.symm, hb2.symm, hb4.symm, hb2, hb4, evb0, evb1, evb2, evb3, evb4, evb5, evb6, evb7, evb8, evb9, ↓evZ2, ↓evZ3, ↓Int.cast_ofNat_Int, implies_true, ne_eq, or_false, false_or, or_self, gt_iff_lt, isMut, aFn, List.contains, List.elem, aBox, aField, aLoad, sub, aNil, aPick, aExt, aFld, gd, noJunk, plainOp, aBuildSlice, aBuild, aFill, aParts, seqParts, fitAll, List.range', ↓reduceIte, reduceCtorEq, Nat.reduceEqDiff, Nat.reduceAdd, Nat.reduceLeDiff, Nat.reduceMul, Nat.reduceLT, Nat.reduceBEq, Int.reduceEq, tf_P1_127]
  refine opsG_split (fun h => ?_) (fun h => ?_)
  case refine_2 =>
    simp -implicitDefEqProofs only [h, setCells, hne, hne.symm, hb2.symm, hb4.symm, hb2, hb4, evb0, evb1, evb2, evb3, evb4, evb5, evb6, evb7, evb8, evb9, ↓evZ2, ↓evZ3, ↓Int.cast_ofNat_Int, implies_true, ne_eq, or_false, false_or, or_self, gt_iff_lt, isMut, aFn, List.contains, List.elem, aBox, aField, aLoad, sub, aNil, aPick, aExt, aFld, gd, noJunk, plainOp, aBuildSlice, aBuild, aFill, aParts, seqParts, fitAll, List.range', ↓reduceIte, reduceCtorEq, Nat.reduceEqDiff, Nat.reduceAdd, Nat.reduceLeDiff, Nat.reduceMul, Nat.reduceLT, Nat.reduceBEq, Int.reduceEq, tf_P1_127]
    simp only [Bool.not_true, decide_eq_false_iff_not] at h
    rw [hend (.inl h), ← Tm.av_mk]
    exact ⟨Tm.soft _, ((Drops.refl _).upd h2).upd hn4⟩
  simp only [decide_eq_true_eq] at h
  subst h
  obtain ⟨hn0, hn1, _⟩ := ownOk_var (Tm.okA_own ht).1
  obtain ⟨i, rfl⟩ : ∃ i : Nat, n = i := ⟨n.toNat, by omega⟩
  have hi : i < 26 := by omega
  have hi' : decide ((i : Int) < 26) = true := by simp; omega
  simp -implicitDefEqProofs only [decide_true, hi', beq_self_eq_true, setCells, hne, hne.symm, hb2.symm, hb4.symm, hb2, hb4, evb0, evb1, evb2, evb3, evb4, evb5, evb6, evb7, evb8, evb9, ↓evZ2, ↓evZ3, ↓Int.cast_ofNat_Int, implies_true, ne_eq, or_false, false_or, or_self, gt_iff_lt, isMut, aFn, List.contains, List.elem, aBox, aField, aLoad, sub, aNil, aPick, aExt, aFld, gd, noJunk, plainOp, aBuildSlice, aBuild, aFill, aParts, seqParts, fitAll, List.range', ↓reduceIte, reduceCtorEq, Nat.reduceEqDiff, Nat.reduceAdd, Nat.reduceLeDiff, Nat.reduceMul, Nat.reduceLT, Nat.reduceBEq, Int.reduceEq, tf_P1_127]
  have hat := held_at (P := prog) (b := b) (len := 26) eI_27 hi
  cases hw with
  | stop hs =>
    obtain ⟨D, e1, e2, _⟩ := hS.none hi (hs rfl)
    simp -implicitDefEqProofs only [hat, e1, e2, decide_true, setCells, hne, hne.symm, hb2.symm, hb4.symm, hb2, hb4, evb0, evb1, evb2, evb3, evb4, evb5, evb6, evb7, evb8, evb9, ↓evZ2, ↓evZ3, ↓Int.cast_ofNat_Int, implies_true, ne_eq, or_false, false_or, or_self, gt_iff_lt, isMut, aFn, List.contains, List.elem, aBox, aField, aLoad, sub, aNil, aPick, aExt, aFld, gd, noJunk, plainOp, aBuildSlice, aBuild, aFill, aParts, seqParts, fitAll, List.range', ↓reduceIte, reduceCtorEq, Nat.reduceEqDiff, Nat.reduceAdd, Nat.reduceLeDiff, Nat.reduceMul, Nat.reduceLT, Nat.reduceBEq, Int.reduceEq, tf_P1_127]
    exact ⟨by rw [← Tm.av_mk, Tm.soft], ((Drops.refl _).upd h2).upd hn4⟩
  | go h1 h2' h3 =>
    simp only [Tm.n] at h2'
    have ho := hok _ _ h2'
    rename_i g' u'
    obtain ⟨k', n', s', ts'⟩ := u'
    have hk' : ¬ k' = 0 := by have := (ownOk_kind (Tm.okA_own ho).1).1; omega
    obtain ⟨D, e1, e2, e3, e4⟩ := hS.some hi h2'
    have e5 : i * 4 + 0 + 4 ≤ D.length := e3
    simp -implicitDefEqProofs only [hat, e1, e2, e3, e4, hk', decide_false, setCells, hne, hne.symm, hb2.symm, hb4.symm, hb2, hb4, evb0, evb1, evb2, evb3, evb4, evb5, evb6, evb7, evb8, evb9, ↓evZ2, ↓evZ3, ↓Int.cast_ofNat_Int, implies_true, ne_eq, or_false, false_or, or_self, gt_iff_lt, isMut, aFn, List.contains, List.elem, aBox, aField, aLoad, sub, aNil, aPick, aExt, aFld, gd, noJunk, plainOp, aBuildSlice, aBuild, aFill, aParts, seqParts, fitAll, List.range', ↓reduceIte, reduceCtorEq, Nat.reduceEqDiff, Nat.reduceAdd, Nat.reduceLeDiff, Nat.reduceMul, Nat.reduceLT, Nat.reduceBEq, Int.reduceEq, tf_P1_127]
    rw [Store.upd_mid hne, Store.upd_comm _ _ _ hne]
    refine ⟨(g', .mk k' n' s' ts'), Nat.lt_succ_self _, ⟨h3, ho⟩, ?_⟩
    simp only [Tm.av_mk]
    exact LessL.mk (by simp -implicitDefEqProofs only [setCells, hne, hne.symm, hb2.symm, hb4.symm, hb2, hb4, evb0, evb1, evb2, evb3, evb4, evb5, evb6, evb7, evb8, evb9, ↓evZ2, ↓evZ3, ↓Int.cast_ofNat_Int, implies_true, ne_eq, or_false, false_or, or_self, gt_iff_lt, isMut, aFn, List.contains, List.elem, aBox, aField, aLoad, sub, aNil, aPick, aExt, aFld, gd, noJunk, plainOp, aBuildSlice, aBuild, aFill, aParts, seqParts, fitAll, List.range', ↓reduceIte, reduceCtorEq, Nat.reduceEqDiff, Nat.reduceAdd, Nat.reduceLeDiff, Nat.reduceMul, Nat.reduceLT, Nat.reduceBEq, Int.reduceEq, tf_P1_127])

theorem ArrAt.acc {st : Store} {b bW : Nat} {σ : Sub} {l : List AV} (h : ArrAt st b σ) (hb : l ≠ [] → st bW = Option.none) : ArrAt (accS st bW l) b σ := by
  cases l with
  | nil => exact h
  | cons x l => exact h.upd (by rintro rfl; rw [ArrAt, hb (by simp)] at h; cases h)
abbrev OkN (t : Tm) : Prop := t.okA = true ∧ t.nodes ≤ 120
theorem okN_kids : ∀ t : Tm, t.k ≠ 1 → OkN t → ∀ x ∈ t.ts, OkN x := fun t hk h x hx => by
  refine ⟨okA_kids t hk h.1 x hx, ?_⟩
  have h2 := h.2
  cases t
  rw [Tm.nodes_mk] at h2
  have := sumL_mem (f := Tm.nodes) hx
  simp only [Tm.ts] at this
  omega

theorem tf_P1_128 : (type_of% tI_2) ∧ (type_of% zI_2) ∧ (type_of% Go.Proofs.Try.underlying2) ∧ (type_of% tI_3) ∧ (type_of% zI_3) ∧ (type_of% Go.Proofs.Try.underlying3) ∧ (type_of% tI_4) ∧ (type_of% zI_4) ∧ (type_of% Go.Proofs.Try.underlying4) ∧ (type_of% tI_5) ∧ (type_of% zI_5) ∧ (type_of% Go.Proofs.Try.underlying5) ∧ (type_of% tI_6) ∧ (type_of% zI_6) ∧ (type_of% Go.Proofs.Try.underlying6) ∧ (type_of% tI_7) ∧ (type_of% zI_7) ∧ (type_of% fI_7_0) ∧ (type_of% fI_7_1) ∧ (type_of% fI_7_2) ∧ (type_of% fI_7_3) ∧ (type_of% bI_7) ∧ (type_of% tI_8) ∧ (type_of% zI_8) ∧ (type_of% fI_8_0) ∧ (type_of% fI_8_1) ∧ (type_of% fI_8_2) ∧ (type_of% fI_8_3) ∧ (type_of% bI_8) ∧ (type_of% tI_9) ∧ (type_of% zI_9) ∧ (type_of% Go.Proofs.Try.underlying9) ∧ (type_of% tI_10) ∧ (type_of% zI_10) ∧ (type_of% Go.Proofs.Try.underlying10) ∧ (type_of% tI_11) ∧ (type_of% zI_11) ∧ (type_of% Go.Proofs.Try.underlying11) ∧ (type_of% tI_12) ∧ (type_of% zI_12) ∧ (type_of% Go.Proofs.Try.underlying12) ∧ (type_of% tI_13) ∧ (type_of% zI_13) ∧ (type_of% fI_13_0) ∧ (type_of% fI_13_1) ∧ (type_of% bI_13) ∧ (type_of% tI_15) ∧ (type_of% zI_15) ∧ (type_of% tI_16) ∧ (type_of% zI_16) ∧ (type_of% tI_21) ∧ (type_of% zI_21) ∧ (type_of% Go.Proofs.Try.underlying21) ∧ (type_of% tI_27) ∧ (type_of% zI_27) ∧ (type_of% eI_27) ∧ (type_of% eB_27) ∧ (type_of% eZ_27) ∧ (type_of% Go.Proofs.Try.underlying27) ∧ (type_of% tI_41) ∧ (type_of% zI_41) ∧ (type_of% fI_41_0) ∧ (type_of% fI_41_1) ∧ (type_of% fI_41_2) ∧ (type_of% fI_41_3) ∧ (type_of% bI_41) ∧ (type_of% tI_64) ∧ (type_of% zI_64) ∧ (type_of% fI_64_0) ∧ (type_of% fI_64_1) ∧ (type_of% bI_64) ∧ (type_of% tI_93) ∧ (type_of% zI_93) ∧ (type_of% eI_93) ∧ (type_of% eB_93) ∧ (type_of% eZ_93) ∧ (type_of% Go.Proofs.Try.underlying93) := ⟨tI_2, zI_2, Go.Proofs.Try.underlying2, tI_3, zI_3, Go.Proofs.Try.underlying3, tI_4, zI_4, Go.Proofs.Try.underlying4, tI_5, zI_5, Go.Proofs.Try.underlying5, tI_6, zI_6, Go.Proofs.Try.underlying6, tI_7, zI_7, fI_7_0, fI_7_1, fI_7_2, fI_7_3, bI_7, tI_8, zI_8, fI_8_0, fI_8_1, fI_8_2, fI_8_3, bI_8, tI_9, zI_9, Go.Proofs.Try.underlying9, tI_10, zI_10, Go.Proofs.Try.underlying10, tI_11, zI_11, Go.Proofs.Try.underlying11, tI_12, zI_12, Go.Proofs.Try.underlying12, tI_13, zI_13, fI_13_0, fI_13_1, bI_13, tI_15, zI_15, tI_16, zI_16, tI_21, zI_21, Go.Proofs.Try.underlying21, tI_27, zI_27, eI_27, eB_27, eZ_27, Go.Proofs.Try.underlying27, tI_41, zI_41, fI_41_0, fI_41_1, fI_41_2, fI_41_3, bI_41, tI_64, zI_64, fI_64_0, fI_64_1, bI_64, tI_93, zI_93, eI_93, eB_93, eZ_93, Go.Proofs.Try.underlying93⟩
theorem c_l3Within {σ : Sub} {R : Int → Tm} {rk : Int → Nat} {B : Nat} (G : Good σ R rk B) (hok : AllS OkN σ) {n : Int} (hn : σ n = none) (t : Tm) (ht : OkN t) (b : Nat) (st : Store) (hS : ArrAt st b σ) :
    ACalls prog 128 [.int .i64 n, t.av, .mslice b 0 26 4] st (fun r st' => r = .bool (decide (n ∈ (t.mapv R).vl)) ∧ st' = st) := by
  refine ACalls.done ?_
  refine acalls_fit [1000000] func128 ntmps128 rfl rfl (by kernel_rfl) (by decide +kernel) (by show 3 ≤ _; decide +kernel) ?_
  intro _
  simp -implicitDefEqProofs only [setCells, evb0, evb1, evb2, evb3, evb4, evb5, evb6, evb7, evb8, evb9, ↓evZ2, ↓evZ3, ↓Int.cast_ofNat_Int, implies_true, ne_eq, or_false, false_or, or_self, gt_iff_lt, isMut, aFn, List.contains, List.elem, aBox, aField, aLoad, sub, aNil, aPick, aExt, aFld, gd, noJunk, plainOp, aBuildSlice, aBuild, aFill, aParts, seqParts, fitAll, List.range', ↓reduceIte, reduceCtorEq, Nat.reduceEqDiff, Nat.reduceAdd, Nat.reduceLeDiff, Nat.reduceMul, Nat.reduceLT, Nat.reduceBEq, Int.reduceEq, tf_P1_128]
  have h0 := c_l1Vars t [] 0 st (Tm.cv_wf t (Tm.okA_cv t ht.1)) (fun h => absurd rfl h) (by have := ht.2; simp only [List.length_nil]; omega)
  simp only [List.map_nil, accV_nil, accS_nil] at h0
  refine h0.mono ?_
  rintro _ _ ⟨b0, rfl, rfl, hb0⟩
  obtain ⟨v1, v2, _⟩ := vars_spec t (Tm.cv_wf t (Tm.okA_cv t ht.1)) []
  simp -implicitDefEqProofs only [setCells, evb0, evb1, evb2, evb3, evb4, evb5, evb6, evb7, evb8, evb9, ↓evZ2, ↓evZ3, ↓Int.cast_ofNat_Int, implies_true, ne_eq, or_false, false_or, or_self, gt_iff_lt, isMut, aFn, List.contains, List.elem, aBox, aField, aLoad, sub, aNil, aPick, aExt, aFld, gd, noJunk, plainOp, aBuildSlice, aBuild, aFill, aParts, seqParts, fitAll, List.range', ↓reduceIte, reduceCtorEq, Nat.reduceEqDiff, Nat.reduceAdd, Nat.reduceLeDiff, Nat.reduceMul, Nat.reduceLT, Nat.reduceBEq, Int.reduceEq, tf_P1_128]
  refine arun_whileK (σ := Nat × List Int × Nat) [1000000] [0, 2]
    (fun p => p.1 ≤ p.2.1.length ∧ p.2.1.Nodup ∧ (∀ w ∈ p.2.1, w ∈ V25) ∧ (p.2.1.map iv ≠ [] → st p.2.2 = none) ∧ (∀ w ∈ p.2.1.take p.1, w ≠ n ∧ ∀ u, σ w = some u → ∀ v ∈ u.vl, v ∈ p.2.1) ∧ (∀ w ∈ p.2.1, n ∈ (R w).vl → n ∈ (t.mapv R).vl) ∧ (n ∈ (t.mapv R).vl → ∃ w ∈ p.2.1, n ∈ (R w).vl))
    (fun p => [(6, .bool false), (7, accV 1 p.2.2 (p.2.1.map iv)), (8, .int .i64 p.1)]) (fun p => accS st p.2.2 (p.2.1.map iv)) (fun p => 26 - p.1) (by decide +kernel)
    ⟨(0, t.vars [], b0), ⟨Nat.zero_le _, v2 List.nodup_nil, fun w hw => ?_, hb0, by simp, fun w hw hm => ?_, fun hm => ?_⟩, LessL.mk (by simp -implicitDefEqProofs only [setCells, evb0, evb1, evb2, evb3, evb4, evb5, evb6, evb7, evb8, evb9, ↓evZ2, ↓evZ3, ↓Int.cast_ofNat_Int, implies_true, ne_eq, or_false, false_or, or_self, gt_iff_lt, isMut, aFn, List.contains, List.elem, aBox, aField, aLoad, sub, aNil, aPick, aExt, aFld, gd, noJunk, plainOp, aBuildSlice, aBuild, aFill, aParts, seqParts, fitAll, List.range', ↓reduceIte, reduceCtorEq, Nat.reduceEqDiff, Nat.reduceAdd, Nat.reduceLeDiff, Nat.reduceMul, Nat.reduceLT, Nat.reduceBEq, Int.reduceEq, tf_P1_128])⟩ ?_
  · rcases (v1 w).1 hw with h | h
    · cases h
    · exact Tm.okA_inV t ht.1 w h
  · rcases (v1 w).1 hw with h | h
    · cases h
    · exact (vl_mapv t).2 ⟨w, h, hm⟩
  · obtain ⟨w, hw, hm⟩ := (vl_mapv t).1 hm
    exact ⟨w, (v1 w).2 (.inr hw), hm⟩
  rintro ⟨i, W, bW⟩ ⟨i1, i2, i3, i4, i5, i6, i7⟩
  simp only at i1 i2 i3 i4 i5 i6 i7
  have haL := accV_len (w := 1) (b := bW) (l := W.map iv) underlying93
  have hWl := nodup_V25 i2 i3
  simp -implicitDefEqProofs only [haL, List.length_map, evb0, evb1, evb2, evb3, evb4, evb5, evb6, evb7, evb8, evb9, ↓evZ2, ↓evZ3, ↓Int.cast_ofNat_Int, implies_true, ne_eq, or_false, false_or, or_self, gt_iff_lt, isMut, aFn, List.contains, List.elem, aBox, aField, aLoad, sub, aNil, aPick, aExt, aFld, gd, noJunk, plainOp, aBuildSlice, aBuild, aFill, aParts, seqParts, fitAll, List.range', ↓reduceIte, reduceCtorEq, Nat.reduceEqDiff, Nat.reduceAdd, Nat.reduceLeDiff, Nat.reduceMul, Nat.reduceLT, Nat.reduceBEq, Int.reduceEq, tf_P1_128]
  refine cond_split (fun h => ?_) (fun h => ?_)
  case refine_2 =>
    simp only [decide_eq_false_iff_not, Int.ofNat_lt] at h
    obtain rfl : i = W.length := by omega
    rw [List.take_length] at i5
    simp -implicitDefEqProofs only [haL, List.length_map, evb0, evb1, evb2, evb3, evb4, evb5, evb6, evb7, evb8, evb9, ↓evZ2, ↓evZ3, ↓Int.cast_ofNat_Int, implies_true, ne_eq, or_false, false_or, or_self, gt_iff_lt, isMut, aFn, List.contains, List.elem, aBox, aField, aLoad, sub, aNil, aPick, aExt, aFld, gd, noJunk, plainOp, aBuildSlice, aBuild, aFill, aParts, seqParts, fitAll, List.range', ↓reduceIte, reduceCtorEq, Nat.reduceEqDiff, Nat.reduceAdd, Nat.reduceLeDiff, Nat.reduceMul, Nat.reduceLT, Nat.reduceBEq, Int.reduceEq, tf_P1_128]
    have hno : n ∉ (t.mapv R).vl := fun hm => by
      obtain ⟨w, hw, hnw⟩ := i7 hm
      exact within_no G i5 w hw hnw
    exact ⟨by simp only [hno, decide_false, soft_agg, soft_tup, soft_int, soft_bool, soft_str, soft_slice, soft_fslice, soft_ptr, soft_pptr, soft_map, soft_mslice, Tm.soft, List.map_cons, List.map_nil], Drops.accS (Drops.refl _) i4⟩
  simp only [decide_eq_true_eq, Int.ofNat_lt] at h
  obtain ⟨w, hx⟩ : ∃ w, W[i]? = some w := ⟨_, List.getElem?_eq_getElem h⟩
  have hmem := List.mem_of_getElem? hx
  have hat := acc_at (b := bW) (l := W.map iv) (i := i) (x := iv w) eI_93 (by rw [List.getElem?_map, hx]; rfl)
  obtain ⟨hblk, hget⟩ := acc_blk (st := st) (b := bW) hx
  have hw := wrap64 (n := (i : Int) + 1) (by omega) (by omega)
  simp -implicitDefEqProofs only [haL, List.length_map, hat, hblk, hget, Nat.mul_one, hw, evb0, evb1, evb2, evb3, evb4, evb5, evb6, evb7, evb8, evb9, ↓evZ2, ↓evZ3, ↓Int.cast_ofNat_Int, implies_true, ne_eq, or_false, false_or, or_self, gt_iff_lt, isMut, aFn, List.contains, List.elem, aBox, aField, aLoad, sub, aNil, aPick, aExt, aFld, gd, noJunk, plainOp, aBuildSlice, aBuild, aFill, aParts, seqParts, fitAll, List.range', ↓reduceIte, reduceCtorEq, Nat.reduceEqDiff, Nat.reduceAdd, Nat.reduceLeDiff, Nat.reduceMul, Nat.reduceLT, Nat.reduceBEq, Int.reduceEq, tf_P1_128]
  refine cond_split (fun h2 => ?_) (fun h2 => ?_)
  · simp only [decide_eq_true_eq] at h2
    subst h2
    simp -implicitDefEqProofs only [haL, List.length_map, hat, hblk, hget, Nat.mul_one, hw, evb0, evb1, evb2, evb3, evb4, evb5, evb6, evb7, evb8, evb9, ↓evZ2, ↓evZ3, ↓Int.cast_ofNat_Int, implies_true, ne_eq, or_false, false_or, or_self, gt_iff_lt, isMut, aFn, List.contains, List.elem, aBox, aField, aLoad, sub, aNil, aPick, aExt, aFld, gd, noJunk, plainOp, aBuildSlice, aBuild, aFill, aParts, seqParts, fitAll, List.range', ↓reduceIte, reduceCtorEq, Nat.reduceEqDiff, Nat.reduceAdd, Nat.reduceLeDiff, Nat.reduceMul, Nat.reduceLT, Nat.reduceBEq, Int.reduceEq, tf_P1_128]
    have hm : w ∈ (t.mapv R).vl := i6 w hmem (by rw [G.free hn, vl_vr]; simp)
    exact ⟨by simp only [hm, decide_true, soft_agg, soft_tup, soft_int, soft_bool, soft_str, soft_slice, soft_fslice, soft_ptr, soft_pptr, soft_map, soft_mslice, Tm.soft, List.map_cons, List.map_nil], Drops.accS (Drops.refl _) i4⟩
  simp only [decide_eq_false_iff_not] at h2
  simp -implicitDefEqProofs only [haL, List.length_map, hat, hblk, hget, Nat.mul_one, hw, evb0, evb1, evb2, evb3, evb4, evb5, evb6, evb7, evb8, evb9, ↓evZ2, ↓evZ3, ↓Int.cast_ofNat_Int, implies_true, ne_eq, or_false, false_or, or_self, gt_iff_lt, isMut, aFn, List.contains, List.elem, aBox, aField, aLoad, sub, aNil, aPick, aExt, aFld, gd, noJunk, plainOp, aBuildSlice, aBuild, aFill, aParts, seqParts, fitAll, List.range', ↓reduceIte, reduceCtorEq, Nat.reduceEqDiff, Nat.reduceAdd, Nat.reduceLeDiff, Nat.reduceMul, Nat.reduceLT, Nat.reduceBEq, Int.reduceEq, tf_P1_128]
  obtain ⟨hw0, hw1⟩ := mem_V25.1 (i3 w hmem)
  obtain ⟨j, rfl⟩ : ∃ j : Nat, w = j := ⟨w.toNat, by omega⟩
  have hj : j < 26 := by omega
  have hj' : decide ((j : Int) < 26) = true := by simp; omega
  have hatj := held_at (P := prog) (b := b) (len := 26) eI_27 hj
  have hSA := hS.acc i4
  have htk : W.take (i + 1) = W.take i ++ [(j : Int)] := by rw [List.take_add_one, hx]; rfl
  have step : ∀ W' : List Int, (∀ v ∈ W, v ∈ W') → (∀ u, σ (j : Int) = some u → ∀ v ∈ u.vl, v ∈ W') → ∀ w ∈ W'.take (i + 1), W'.take (i + 1) = W.take (i + 1) → w ≠ n ∧ ∀ u, σ w = some u → ∀ v ∈ u.vl, v ∈ W' := by
    intro W' hsub hnew w hw' hte
    rw [hte, htk] at hw'
    rcases List.mem_append.1 hw' with hw' | hw'
    · exact ⟨(i5 w hw').1, fun u hu v hv => hsub v ((i5 w hw').2 u hu v hv)⟩
    · simp only [List.mem_cons, List.not_mem_nil, or_false] at hw'
      subst hw'
      exact ⟨h2, hnew⟩
  cases hs : σ (j : Int) with
  | none =>
    obtain ⟨D, e1, e2, _⟩ := hSA.none hj hs
    simp -implicitDefEqProofs only [hj', hatj, e1, e2, decide_true, beq_self_eq_true, haL, List.length_map, hat, hblk, hget, Nat.mul_one, hw, evb0, evb1, evb2, evb3, evb4, evb5, evb6, evb7, evb8, evb9, ↓evZ2, ↓evZ3, ↓Int.cast_ofNat_Int, implies_true, ne_eq, or_false, false_or, or_self, gt_iff_lt, isMut, aFn, List.contains, List.elem, aBox, aField, aLoad, sub, aNil, aPick, aExt, aFld, gd, noJunk, plainOp, aBuildSlice, aBuild, aFill, aParts, seqParts, fitAll, List.range', ↓reduceIte, reduceCtorEq, Nat.reduceEqDiff, Nat.reduceAdd, Nat.reduceLeDiff, Nat.reduceMul, Nat.reduceLT, Nat.reduceBEq, Int.reduceEq, tf_P1_128]
    exact ⟨(i + 1, W, bW), by simp only; omega, ⟨h, i2, i3, i4, fun w hw' => step W (fun _ h => h) (fun u hu => by rw [hs] at hu; cases hu) w hw' rfl, i6, i7⟩, LessL.mk (by simp -implicitDefEqProofs only [haL, List.length_map, hat, hblk, hget, Nat.mul_one, hw, evb0, evb1, evb2, evb3, evb4, evb5, evb6, evb7, evb8, evb9, ↓evZ2, ↓evZ3, ↓Int.cast_ofNat_Int, implies_true, ne_eq, or_false, false_or, or_self, gt_iff_lt, isMut, aFn, List.contains, List.elem, aBox, aField, aLoad, sub, aNil, aPick, aExt, aFld, gd, noJunk, plainOp, aBuildSlice, aBuild, aFill, aParts, seqParts, fitAll, List.range', ↓reduceIte, reduceCtorEq, Nat.reduceEqDiff, Nat.reduceAdd, Nat.reduceLeDiff, Nat.reduceMul, Nat.reduceLT, Nat.reduceBEq, Int.reduceEq, tf_P1_128])⟩
  | some u =>
    obtain ⟨k', n', s', ts'⟩ := u
    have ho := hok _ _ hs
    have hk' : ¬ k' = 0 := by have := (ownOk_kind (Tm.okA_own ho.1).1).1; omega
    obtain ⟨D, e1, e2, e3, e4⟩ := hSA.some hj hs
    simp -implicitDefEqProofs only [hj', hatj, e1, e2, e3, e4, hk', decide_false, beq_self_eq_true, haL, List.length_map, hat, hblk, hget, Nat.mul_one, hw, evb0, evb1, evb2, evb3, evb4, evb5, evb6, evb7, evb8, evb9, ↓evZ2, ↓evZ3, ↓Int.cast_ofNat_Int, implies_true, ne_eq, or_false, false_or, or_self, gt_iff_lt, isMut, aFn, List.contains, List.elem, aBox, aField, aLoad, sub, aNil, aPick, aExt, aFld, gd, noJunk, plainOp, aBuildSlice, aBuild, aFill, aParts, seqParts, fitAll, List.range', ↓reduceIte, reduceCtorEq, Nat.reduceEqDiff, Nat.reduceAdd, Nat.reduceLeDiff, Nat.reduceMul, Nat.reduceLT, Nat.reduceBEq, Int.reduceEq, tf_P1_128]
    have hwf := Tm.cv_wf _ (Tm.okA_cv _ ho.1)
    have hc := c_l1Vars (.mk k' n' s' ts') W bW st hwf i4 (by have := ho.2; omega)
    obtain ⟨u1, u2, m, u3⟩ := vars_spec _ hwf W
    rw [Tm.av_mk] at hc
    refine hc.mono ?_
    rintro _ _ ⟨b', rfl, rfl, hb'⟩
    generalize (Tm.mk k' n' s' ts').vars W = W' at *
    have hte : W'.take (i + 1) = W.take (i + 1) := by rw [u3, List.take_append_of_le_length (by omega)]
    have hbd : (Tm.mk k' n' s' ts').mapv R = R (j : Int) := (G.bound hs).symm
    simp -implicitDefEqProofs only [haL, List.length_map, hat, hblk, hget, Nat.mul_one, hw, evb0, evb1, evb2, evb3, evb4, evb5, evb6, evb7, evb8, evb9, ↓evZ2, ↓evZ3, ↓Int.cast_ofNat_Int, implies_true, ne_eq, or_false, false_or, or_self, gt_iff_lt, isMut, aFn, List.contains, List.elem, aBox, aField, aLoad, sub, aNil, aPick, aExt, aFld, gd, noJunk, plainOp, aBuildSlice, aBuild, aFill, aParts, seqParts, fitAll, List.range', ↓reduceIte, reduceCtorEq, Nat.reduceEqDiff, Nat.reduceAdd, Nat.reduceLeDiff, Nat.reduceMul, Nat.reduceLT, Nat.reduceBEq, Int.reduceEq, tf_P1_128]
    refine ⟨(i + 1, W', b'), by simp only; omega, ⟨by rw [u3]; simp only [List.length_append]; omega, u2 i2, fun w hw' => ?_, hb', fun w hw' => step W' (fun v hv => (u1 v).2 (.inl hv)) (fun u hu v hv => ?_) w hw' hte, fun w hw' hm => ?_, fun hm => ?_⟩, LessL.mk (by simp -implicitDefEqProofs only [haL, List.length_map, hat, hblk, hget, Nat.mul_one, hw, evb0, evb1, evb2, evb3, evb4, evb5, evb6, evb7, evb8, evb9, ↓evZ2, ↓evZ3, ↓Int.cast_ofNat_Int, implies_true, ne_eq, or_false, false_or, or_self, gt_iff_lt, isMut, aFn, List.contains, List.elem, aBox, aField, aLoad, sub, aNil, aPick, aExt, aFld, gd, noJunk, plainOp, aBuildSlice, aBuild, aFill, aParts, seqParts, fitAll, List.range', ↓reduceIte, reduceCtorEq, Nat.reduceEqDiff, Nat.reduceAdd, Nat.reduceLeDiff, Nat.reduceMul, Nat.reduceLT, Nat.reduceBEq, Int.reduceEq, tf_P1_128])⟩
    · rcases (u1 w).1 hw' with h | h
      · exact i3 w h
      · exact Tm.okA_inV _ ho.1 w h
    · rw [hs] at hu
      cases hu
      exact (u1 v).2 (.inr hv)
    · rcases (u1 w).1 hw' with h | h
      · exact i6 w h hm
      · refine i6 (j : Int) hmem ?_
        rw [← hbd]
        exact (vl_mapv _).2 ⟨w, h, hm⟩
    · obtain ⟨w, h, hm⟩ := i7 hm
      exact ⟨w, (u1 w).2 (.inl h), hm⟩
end Go.AW


/- The reference's bindings: unification. -/
namespace Go.AW
open Go.Proofs.Try
set_option linter.unusedSimpArgs false
set_option maxRecDepth 100000

/-- The list of bindings has turned, nothing else. -/
def AQ (b : Nat) (st : Store) (σ' : Sub) (st' : Store) : Prop := ArrAt st' b σ' ∧ ∀ x o, st x = some o → x ≠ b → st' x = some o
theorem AQ.refl {b : Nat} {st : Store} {σ : Sub} (h : ArrAt st b σ) : AQ b st σ st := ⟨h, fun _ _ h _ => h⟩
theorem AQ.trans {b : Nat} {st s2 s3 : Store} {σ2 σ3 : Sub} (x : AQ b st σ2 s2) (y : AQ b s2 σ3 s3) : AQ b st σ3 s3 := ⟨y.1, fun q o h hn => y.2 q o (x.2 q o h hn) hn⟩
def UF (f : Nat) (b : Nat) (σ : Sub) (a c : Tm) (r : Bool) (σ' : Sub) : Prop := ∀ st, ArrAt st b σ → ACalls prog f [a.av, c.av, .mslice b 0 26 4] st (fun r' st' => r' = .bool r ∧ AQ b st σ' st')

theorem tf_P2_73 : (type_of% tI_2) ∧ (type_of% zI_2) ∧ (type_of% Go.Proofs.Try.underlying2) ∧ (type_of% tI_3) ∧ (type_of% zI_3) ∧ (type_of% Go.Proofs.Try.underlying3) ∧ (type_of% tI_4) ∧ (type_of% zI_4) ∧ (type_of% Go.Proofs.Try.underlying4) ∧ (type_of% tI_5) ∧ (type_of% zI_5) ∧ (type_of% Go.Proofs.Try.underlying5) ∧ (type_of% tI_6) ∧ (type_of% zI_6) ∧ (type_of% Go.Proofs.Try.underlying6) ∧ (type_of% tI_7) ∧ (type_of% zI_7) ∧ (type_of% fI_7_0) ∧ (type_of% fI_7_1) ∧ (type_of% fI_7_2) ∧ (type_of% fI_7_3) ∧ (type_of% bI_7) ∧ (type_of% tI_8) ∧ (type_of% zI_8) ∧ (type_of% fI_8_0) ∧ (type_of% fI_8_1) ∧ (type_of% fI_8_2) ∧ (type_of% fI_8_3) ∧ (type_of% bI_8) ∧ (type_of% tI_9) ∧ (type_of% zI_9) ∧ (type_of% Go.Proofs.Try.underlying9) ∧ (type_of% tI_10) ∧ (type_of% zI_10) ∧ (type_of% Go.Proofs.Try.underlying10) ∧ (type_of% tI_11) ∧ (type_of% zI_11) ∧ (type_of% Go.Proofs.Try.underlying11) ∧ (type_of% tI_12) ∧ (type_of% zI_12) ∧ (type_of% Go.Proofs.Try.underlying12) ∧ (type_of% tI_13) ∧ (type_of% zI_13) ∧ (type_of% fI_13_0) ∧ (type_of% fI_13_1) ∧ (type_of% bI_13) ∧ (type_of% tI_14) ∧ (type_of% zI_14) ∧ (type_of% fI_14_0) ∧ (type_of% fI_14_1) ∧ (type_of% bI_14) ∧ (type_of% tI_15) ∧ (type_of% zI_15) ∧ (type_of% tI_16) ∧ (type_of% zI_16) ∧ (type_of% tI_17) ∧ (type_of% zI_17) ∧ (type_of% tI_18) ∧ (type_of% zI_18) ∧ (type_of% fI_18_0) ∧ (type_of% bI_18) ∧ (type_of% tI_19) ∧ (type_of% zI_19) ∧ (type_of% fI_19_0) ∧ (type_of% bI_19) ∧ (type_of% tI_27) ∧ (type_of% zI_27) ∧ (type_of% eI_27) ∧ (type_of% eB_27) ∧ (type_of% eZ_27) ∧ (type_of% Go.Proofs.Try.underlying27) ∧ (type_of% tI_41) ∧ (type_of% zI_41) ∧ (type_of% fI_41_0) ∧ (type_of% fI_41_1) ∧ (type_of% fI_41_2) ∧ (type_of% fI_41_3) ∧ (type_of% bI_41) ∧ (type_of% tI_44) ∧ (type_of% zI_44) ∧ (type_of% eI_44) ∧ (type_of% eB_44) ∧ (type_of% eZ_44) ∧ (type_of% Go.Proofs.Try.underlying44) ∧ (type_of% tI_64) ∧ (type_of% zI_64) ∧ (type_of% fI_64_0) ∧ (type_of% fI_64_1) ∧ (type_of% bI_64) ∧ (type_of% tI_71) ∧ (type_of% zI_71) ∧ (type_of% eI_71) ∧ (type_of% eB_71) ∧ (type_of% eZ_71) ∧ (type_of% Go.Proofs.Try.underlying71) ∧ (type_of% tI_73) ∧ (type_of% zI_73) ∧ (type_of% eI_73) ∧ (type_of% eB_73) ∧ (type_of% eZ_73) ∧ (type_of% Go.Proofs.Try.underlying73) ∧ (type_of% tI_74) ∧ (type_of% zI_74) ∧ (type_of% fI_74_0) ∧ (type_of% fI_74_1) ∧ (type_of% fI_74_2) ∧ (type_of% fI_74_3) ∧ (type_of% fI_74_4) ∧ (type_of% fI_74_5) ∧ (type_of% bI_74) ∧ (type_of% tI_93) ∧ (type_of% zI_93) ∧ (type_of% eI_93) ∧ (type_of% eB_93) ∧ (type_of% eZ_93) ∧ (type_of% Go.Proofs.Try.underlying93) := ⟨tI_2, zI_2, Go.Proofs.Try.underlying2, tI_3, zI_3, Go.Proofs.Try.underlying3, tI_4, zI_4, Go.Proofs.Try.underlying4, tI_5, zI_5, Go.Proofs.Try.underlying5, tI_6, zI_6, Go.Proofs.Try.underlying6, tI_7, zI_7, fI_7_0, fI_7_1, fI_7_2, fI_7_3, bI_7, tI_8, zI_8, fI_8_0, fI_8_1, fI_8_2, fI_8_3, bI_8, tI_9, zI_9, Go.Proofs.Try.underlying9, tI_10, zI_10, Go.Proofs.Try.underlying10, tI_11, zI_11, Go.Proofs.Try.underlying11, tI_12, zI_12, Go.Proofs.Try.underlying12, tI_13, zI_13, fI_13_0, fI_13_1, bI_13, tI_14, zI_14, fI_14_0, fI_14_1, bI_14, tI_15, zI_15, tI_16, zI_16, tI_17, zI_17, tI_18, zI_18, fI_18_0, bI_18, tI_19, zI_19, fI_19_0, bI_19, tI_27, zI_27, eI_27, eB_27, eZ_27, Go.Proofs.Try.underlying27, tI_41, zI_41, fI_41_0, fI_41_1, fI_41_2, fI_41_3, bI_41, tI_44, zI_44, eI_44, eB_44, eZ_44, Go.Proofs.Try.underlying44, tI_64, zI_64, fI_64_0, fI_64_1, bI_64, tI_71, zI_71, eI_71, eB_71, eZ_71, Go.Proofs.Try.underlying71, tI_73, zI_73, eI_73, eB_73, eZ_73, Go.Proofs.Try.underlying73, tI_74, zI_74, fI_74_0, fI_74_1, fI_74_2, fI_74_3, fI_74_4, fI_74_5, bI_74, tI_93, zI_93, eI_93, eB_93, eZ_93, Go.Proofs.Try.underlying93⟩
theorem l3U_body (g : Nat) (bb : Nat) (IH : ∀ (σ : Sub) (a b : Tm) (r : Bool) (σ' : Sub) (add : List Int), IsGood σ → AllS OkN σ → OkN a → OkN b → uniF g σ a b = some (r, σ', add) → UF 73 bb σ a b r σ')
    (σ : Sub) (a b : Tm) (r : Bool) (σ' : Sub) (add : List Int) (hg : IsGood σ) (hok : AllS OkN σ) (ha0 : OkN a) (hb0 : OkN b) (h : uniF (g + 1) σ a b = some (r, σ', add))
    (hswap : (wk σ a).k ≠ 1 → (wk σ b).k = 1 → UF 73 bb σ (wk σ b) (wk σ a) r σ') : UF 73 bb σ a b r σ' := by
  intro st hS
  obtain ⟨rk, B, G⟩ := hg.rs
  obtain ⟨fa, wa⟩ := G.wk a
  obtain ⟨fb, wb⟩ := G.wk b
  have hokA : AllS OkA σ := fun n u hu => (hok n u hu).1
  have hca := fun st (hS : ArrAt st bb σ) => c_l3Walk hokA wa ha0.1 bb st hS
  have hcb := fun st (hS : ArrAt st bb σ) => c_l3Walk hokA wb hb0.1 bb st hS
  have ea := wa.end
  have eb := wb.end
  have hsa := wa.all (p := OkN) hok ha0
  have hsb := wb.all (p := OkN) hok hb0
  replace h := uniF_cases h
  generalize wk σ a = a1 at *
  generalize wk σ b = b1 at *
  clear wa wb
  refine acalls_fit [1000000, 3, 4] func73 ntmps73 rfl rfl (by kernel_rfl) (by decide +kernel) (by show 3 ≤ _; decide +kernel) ?_
  intro hfit
  simp -implicitDefEqProofs only [setCells, evb0, evb1, evb2, evb3, evb4, evb5, evb6, evb7, evb8, evb9, ↓evZ2, ↓evZ3, ↓Int.cast_ofNat_Int, implies_true, ne_eq, or_false, false_or, or_self, gt_iff_lt, isMut, aFn, List.contains, List.elem, aBox, aField, aLoad, sub, aNil, aPick, aExt, aFld, gd, noJunk, plainOp, aBuildSlice, aBuild, aFill, aParts, seqParts, fitAll, List.range', ↓reduceIte, reduceCtorEq, Nat.reduceEqDiff, Nat.reduceAdd, Nat.reduceLeDiff, Nat.reduceMul, Nat.reduceLT, Nat.reduceBEq, Int.reduceEq, tf_P2_73]
  intro b4 h4 b5 h5
  have h54 : b5 ≠ b4 := by rintro rfl; rw [Store.upd_same] at h5; cases h5
  have hn5 : st b5 = none := by rw [Store.upd_ne st _ h54] at h5; exact h5
  have h4b : b4 ≠ bb := by rintro rfl; rw [ArrAt, h4] at hS; cases hS
  have h5b : b5 ≠ bb := by rintro rfl; rw [ArrAt, hn5] at hS; cases hS
  have hS' : ∀ o o', ArrAt ((st.upd b4 o).upd b5 o') bb σ := fun o o' => (hS.upd h4b).upd h5b
  have hQ : ∀ o o', AQ bb st σ ((st.upd b4 o).upd b5 o') := fun o o' => ⟨hS' o o', fun x p h _ => by
    rw [Store.upd_ne _ _ (by rintro rfl; rw [hn5] at h; cases h), Store.upd_ne _ _ (by rintro rfl; rw [h4] at h; cases h)]; exact h⟩
  simp -implicitDefEqProofs only [Tm.av_cells, take_all (Tm.av_cells a), agg_cells (Tm.av_agg a), Tm.av_agg, Tm.av_width, Nat.le_refl, setCells, h54, h54.symm, evb0, evb1, evb2, evb3, evb4, evb5, evb6, evb7, evb8, evb9, ↓evZ2, ↓evZ3, ↓Int.cast_ofNat_Int, implies_true, ne_eq, or_false, false_or, or_self, gt_iff_lt, isMut, aFn, List.contains, List.elem, aBox, aField, aLoad, sub, aNil, aPick, aExt, aFld, gd, noJunk, plainOp, aBuildSlice, aBuild, aFill, aParts, seqParts, fitAll, List.range', ↓reduceIte, reduceCtorEq, Nat.reduceEqDiff, Nat.reduceAdd, Nat.reduceLeDiff, Nat.reduceMul, Nat.reduceLT, Nat.reduceBEq, Int.reduceEq, tf_P2_73]
  refine (hca _ (hS' _ _)).to ?_
  simp -implicitDefEqProofs only [Tm.av_cells, take_all (Tm.av_cells b), agg_cells (Tm.av_agg b), Tm.av_agg, Tm.av_width, Nat.le_refl, Tm.av_store, setCells, h54, h54.symm, evb0, evb1, evb2, evb3, evb4, evb5, evb6, evb7, evb8, evb9, ↓evZ2, ↓evZ3, ↓Int.cast_ofNat_Int, implies_true, ne_eq, or_false, false_or, or_self, gt_iff_lt, isMut, aFn, List.contains, List.elem, aBox, aField, aLoad, sub, aNil, aPick, aExt, aFld, gd, noJunk, plainOp, aBuildSlice, aBuild, aFill, aParts, seqParts, fitAll, List.range', ↓reduceIte, reduceCtorEq, Nat.reduceEqDiff, Nat.reduceAdd, Nat.reduceLeDiff, Nat.reduceMul, Nat.reduceLT, Nat.reduceBEq, Int.reduceEq, tf_P2_73]
  rw [Store.upd_mid h54, Store.upd_comm _ _ _ h54]
  refine (hcb _ (hS' _ _)).to ?_
  obtain ⟨ka, na, sa, tsa⟩ := a1
  obtain ⟨kb, nb, sb', tsb⟩ := b1
  obtain ⟨hla, hlas⟩ := Tm.small_mk (Tm.okA_small _ hsa.1)
  obtain ⟨hlb, hlbs⟩ := Tm.small_mk (Tm.okA_small _ hsb.1)
  have hfin : ∀ o o', AQ bb st σ ((st.upd b4 o).upd b5 o') := hQ
  have hka := fun h => okN_kids _ h hsa
  have hkb := fun h => okN_kids _ h hsb
  simp only [Tm.av_mk]
  simp only [Tm.k, Tm.n, Tm.s, Tm.ts] at h ea eb hswap hka hkb
  simp -implicitDefEqProofs only [Store.upd_upd, setCells, h54, h54.symm, evb0, evb1, evb2, evb3, evb4, evb5, evb6, evb7, evb8, evb9, ↓evZ2, ↓evZ3, ↓Int.cast_ofNat_Int, implies_true, ne_eq, or_false, false_or, or_self, gt_iff_lt, isMut, aFn, List.contains, List.elem, aBox, aField, aLoad, sub, aNil, aPick, aExt, aFld, gd, noJunk, plainOp, aBuildSlice, aBuild, aFill, aParts, seqParts, fitAll, List.range', ↓reduceIte, reduceCtorEq, Nat.reduceEqDiff, Nat.reduceAdd, Nat.reduceLeDiff, Nat.reduceMul, Nat.reduceLT, Nat.reduceBEq, Int.reduceEq, tf_P2_73]
  have var : ∀ {n : Int} {t : Tm}, n ∈ V25 → σ n = none → OkN t → bnd σ n t = (r, σ', add) → ∀ s0, ArrAt s0 bb σ → ACalls prog 128 [.int .i64 n, t.av, .mslice bb 0 26 4] s0 (fun r' st' => r' = .bool (!r) ∧ st' = s0) := by
    intro n t _ hn ht hb s0 hs0
    have := c_l3Within G hok hn t ht bb s0 hs0
    unfold bnd at hb
    split at hb
    · rename_i hm
      cases hb
      simpa [hm] using this
    · rename_i hm
      cases hb
      simpa [hm] using this
  rcases h with ⟨h1, h2, h3, rfl, rfl, rfl⟩ | ⟨h1, h2, h3⟩ | ⟨h1, h2, h3⟩ | ⟨h1, h2, h3, h4⟩ | ⟨h1, h2, h3, rfl, rfl, rfl⟩
  · subst h1 h2 h3
    simp -implicitDefEqProofs only [decide_true, beq_self_eq_true, setCells, h54, h54.symm, evb0, evb1, evb2, evb3, evb4, evb5, evb6, evb7, evb8, evb9, ↓evZ2, ↓evZ3, ↓Int.cast_ofNat_Int, implies_true, ne_eq, or_false, false_or, or_self, gt_iff_lt, isMut, aFn, List.contains, List.elem, aBox, aField, aLoad, sub, aNil, aPick, aExt, aFld, gd, noJunk, plainOp, aBuildSlice, aBuild, aFill, aParts, seqParts, fitAll, List.range', ↓reduceIte, reduceCtorEq, Nat.reduceEqDiff, Nat.reduceAdd, Nat.reduceLeDiff, Nat.reduceMul, Nat.reduceLT, Nat.reduceBEq, Int.reduceEq, tf_P2_73]
    exact hfin _ _
  · subst h1
    have hin := Tm.okA_inV _ hsa.1 na (by rw [Tm.vl_var rfl]; simp)
    obtain ⟨hn0, hn1⟩ := mem_V25.1 hin
    have hcw := var hin (ea rfl) hsb h3 _ (hS' (.cells [.int .i64 1, .int .i64 na, .str sa, .slice (tsa.map Tm.av)]) (.cells [.int .i64 kb, .int .i64 nb, .str sb', .slice (tsb.map Tm.av)]))
    have hna := ea rfl
    rw [Tm.av_mk] at hcw
    obtain ⟨i, rfl⟩ : ∃ i : Nat, na = i := ⟨na.toNat, by omega⟩
    have hi : i < 26 := by omega
    have hat := held_at (P := prog) (b := bb) (len := 26) eI_27 hi
    have h6 : kb = 1 → ¬ (i : Int) = nb := fun e1 e => h2 ⟨e1, e⟩
    have tail : ∀ (s0 : Store), s0 = ((st.upd b4 (.cells [.int .i64 1, .int .i64 i, .str sa, .slice (tsa.map Tm.av)])).upd b5 (.cells [.int .i64 kb, .int .i64 nb, .str sb', .slice (tsb.map Tm.av)])) → r = true →
        ∃ D D', s0 bb = some (.cells D) ∧ i * 4 + 4 ≤ D.length ∧ setCells D (i * 4) [.int .i64 kb, .int .i64 nb, .str sb', .slice (tsb.map Tm.av)] = D' ∧ AQ bb st σ' (s0.upd bb (.cells D')) := by
      rintro _ rfl rfl
      unfold bnd at h3
      split at h3
      · cases h3
      · cases h3
        obtain ⟨D, D', e1, e2, e3, e4⟩ := (hS' (.cells [.int .i64 1, .int .i64 i, .str sa, .slice (tsa.map Tm.av)]) (.cells [.int .i64 kb, .int .i64 nb, .str sb', .slice (tsb.map Tm.av)])).set hi (.mk kb nb sb' tsb)
        refine ⟨D, D', e1, e2, by rw [← e3, Tm.av_mk]; rfl, e4, fun x o hx hxb => ?_⟩
        rw [Store.upd_ne _ _ hxb]
        exact (hQ _ _).2 x o hx hxb
    by_cases h5 : kb = 1
    · subst h5
      simp -implicitDefEqProofs only [decide_true, h6 rfl, decide_false, beq_self_eq_true, setCells, h54, h54.symm, evb0, evb1, evb2, evb3, evb4, evb5, evb6, evb7, evb8, evb9, ↓evZ2, ↓evZ3, ↓Int.cast_ofNat_Int, implies_true, ne_eq, or_false, false_or, or_self, gt_iff_lt, isMut, aFn, List.contains, List.elem, aBox, aField, aLoad, sub, aNil, aPick, aExt, aFld, gd, noJunk, plainOp, aBuildSlice, aBuild, aFill, aParts, seqParts, fitAll, List.range', ↓reduceIte, reduceCtorEq, Nat.reduceEqDiff, Nat.reduceAdd, Nat.reduceLeDiff, Nat.reduceMul, Nat.reduceLT, Nat.reduceBEq, Int.reduceEq, tf_P2_73]
      refine hcw.to ?_
      cases r with
      | false =>
        simp -implicitDefEqProofs only [setCells, h54, h54.symm, evb0, evb1, evb2, evb3, evb4, evb5, evb6, evb7, evb8, evb9, ↓evZ2, ↓evZ3, ↓Int.cast_ofNat_Int, implies_true, ne_eq, or_false, false_or, or_self, gt_iff_lt, isMut, aFn, List.contains, List.elem, aBox, aField, aLoad, sub, aNil, aPick, aExt, aFld, gd, noJunk, plainOp, aBuildSlice, aBuild, aFill, aParts, seqParts, fitAll, List.range', ↓reduceIte, reduceCtorEq, Nat.reduceEqDiff, Nat.reduceAdd, Nat.reduceLeDiff, Nat.reduceMul, Nat.reduceLT, Nat.reduceBEq, Int.reduceEq, tf_P2_73]
        unfold bnd at h3
        split at h3
        · cases h3
          exact hfin _ _
        · cases h3
      | true =>
        obtain ⟨D, D', e1, e2, e3, e4⟩ := tail _ rfl rfl
        simp -implicitDefEqProofs only [hat, e1, e2, setCells, h54, h54.symm, evb0, evb1, evb2, evb3, evb4, evb5, evb6, evb7, evb8, evb9, ↓evZ2, ↓evZ3, ↓Int.cast_ofNat_Int, implies_true, ne_eq, or_false, false_or, or_self, gt_iff_lt, isMut, aFn, List.contains, List.elem, aBox, aField, aLoad, sub, aNil, aPick, aExt, aFld, gd, noJunk, plainOp, aBuildSlice, aBuild, aFill, aParts, seqParts, fitAll, List.range', ↓reduceIte, reduceCtorEq, Nat.reduceEqDiff, Nat.reduceAdd, Nat.reduceLeDiff, Nat.reduceMul, Nat.reduceLT, Nat.reduceBEq, Int.reduceEq, tf_P2_73]
        rw [← e3] at e4
        exact e4
    · simp -implicitDefEqProofs only [decide_true, h5, decide_false, beq_self_eq_true, setCells, h54, h54.symm, evb0, evb1, evb2, evb3, evb4, evb5, evb6, evb7, evb8, evb9, ↓evZ2, ↓evZ3, ↓Int.cast_ofNat_Int, implies_true, ne_eq, or_false, false_or, or_self, gt_iff_lt, isMut, aFn, List.contains, List.elem, aBox, aField, aLoad, sub, aNil, aPick, aExt, aFld, gd, noJunk, plainOp, aBuildSlice, aBuild, aFill, aParts, seqParts, fitAll, List.range', ↓reduceIte, reduceCtorEq, Nat.reduceEqDiff, Nat.reduceAdd, Nat.reduceLeDiff, Nat.reduceMul, Nat.reduceLT, Nat.reduceBEq, Int.reduceEq, tf_P2_73]
      refine hcw.to ?_
      cases r with
      | false =>
        simp -implicitDefEqProofs only [setCells, h54, h54.symm, evb0, evb1, evb2, evb3, evb4, evb5, evb6, evb7, evb8, evb9, ↓evZ2, ↓evZ3, ↓Int.cast_ofNat_Int, implies_true, ne_eq, or_false, false_or, or_self, gt_iff_lt, isMut, aFn, List.contains, List.elem, aBox, aField, aLoad, sub, aNil, aPick, aExt, aFld, gd, noJunk, plainOp, aBuildSlice, aBuild, aFill, aParts, seqParts, fitAll, List.range', ↓reduceIte, reduceCtorEq, Nat.reduceEqDiff, Nat.reduceAdd, Nat.reduceLeDiff, Nat.reduceMul, Nat.reduceLT, Nat.reduceBEq, Int.reduceEq, tf_P2_73]
        unfold bnd at h3
        split at h3
        · cases h3
          exact hfin _ _
        · cases h3
      | true =>
        obtain ⟨D, D', e1, e2, e3, e4⟩ := tail _ rfl rfl
        simp -implicitDefEqProofs only [hat, e1, e2, setCells, h54, h54.symm, evb0, evb1, evb2, evb3, evb4, evb5, evb6, evb7, evb8, evb9, ↓evZ2, ↓evZ3, ↓Int.cast_ofNat_Int, implies_true, ne_eq, or_false, false_or, or_self, gt_iff_lt, isMut, aFn, List.contains, List.elem, aBox, aField, aLoad, sub, aNil, aPick, aExt, aFld, gd, noJunk, plainOp, aBuildSlice, aBuild, aFill, aParts, seqParts, fitAll, List.range', ↓reduceIte, reduceCtorEq, Nat.reduceEqDiff, Nat.reduceAdd, Nat.reduceLeDiff, Nat.reduceMul, Nat.reduceLT, Nat.reduceBEq, Int.reduceEq, tf_P2_73]
        rw [← e3] at e4
        exact e4
  · subst h2
    have hsw := hswap h1 rfl
    simp only [UF, Tm.av_mk] at hsw
    simp -implicitDefEqProofs only [decide_true, h1, decide_false, beq_self_eq_true, setCells, h54, h54.symm, evb0, evb1, evb2, evb3, evb4, evb5, evb6, evb7, evb8, evb9, ↓evZ2, ↓evZ3, ↓Int.cast_ofNat_Int, implies_true, ne_eq, or_false, false_or, or_self, gt_iff_lt, isMut, aFn, List.contains, List.elem, aBox, aField, aLoad, sub, aNil, aPick, aExt, aFld, gd, noJunk, plainOp, aBuildSlice, aBuild, aFill, aParts, seqParts, fitAll, List.range', ↓reduceIte, reduceCtorEq, Nat.reduceEqDiff, Nat.reduceAdd, Nat.reduceLeDiff, Nat.reduceMul, Nat.reduceLT, Nat.reduceBEq, Int.reduceEq, tf_P2_73]
    refine (hsw _ (hS' _ _)).mono ?_
    rintro _ s2 ⟨rfl, hp⟩
    simp -implicitDefEqProofs only [setCells, h54, h54.symm, evb0, evb1, evb2, evb3, evb4, evb5, evb6, evb7, evb8, evb9, ↓evZ2, ↓evZ3, ↓Int.cast_ofNat_Int, implies_true, ne_eq, or_false, false_or, or_self, gt_iff_lt, isMut, aFn, List.contains, List.elem, aBox, aField, aLoad, sub, aNil, aPick, aExt, aFld, gd, noJunk, plainOp, aBuildSlice, aBuild, aFill, aParts, seqParts, fitAll, List.range', ↓reduceIte, reduceCtorEq, Nat.reduceEqDiff, Nat.reduceAdd, Nat.reduceLeDiff, Nat.reduceMul, Nat.reduceLT, Nat.reduceBEq, Int.reduceEq, tf_P2_73]
    exact (hQ _ _).trans hp
  · rw [headEq_iff] at h3
    simp only [Tm.k, Tm.n, Tm.s, Tm.ts] at h3
    obtain ⟨rfl, rfl, rfl, hlen⟩ := h3
    have hlen' : decide ((tsa.length : Int) = (tsb.length : Int)) = true := by simp [hlen]
    simp -implicitDefEqProofs only [decide_true, decide_false, hlen', beq_self_eq_true, setCells, h54, h54.symm, List.length_map, h1, evb0, evb1, evb2, evb3, evb4, evb5, evb6, evb7, evb8, evb9, ↓evZ2, ↓evZ3, ↓Int.cast_ofNat_Int, implies_true, ne_eq, or_false, false_or, or_self, gt_iff_lt, isMut, aFn, List.contains, List.elem, aBox, aField, aLoad, sub, aNil, aPick, aExt, aFld, gd, noJunk, plainOp, aBuildSlice, aBuild, aFill, aParts, seqParts, fitAll, List.range', ↓reduceIte, reduceCtorEq, Nat.reduceEqDiff, Nat.reduceAdd, Nat.reduceLeDiff, Nat.reduceMul, Nat.reduceLT, Nat.reduceBEq, Int.reduceEq, tf_P2_73]
    have hS0 := hS' (.cells [.int .i64 ka, .int .i64 na, .str sa, .slice (tsa.map Tm.av)]) (.cells [.int .i64 ka, .int .i64 na, .str sa, .slice (tsb.map Tm.av)])
    have hQ0 := hQ (.cells [.int .i64 ka, .int .i64 na, .str sa, .slice (tsa.map Tm.av)]) (.cells [.int .i64 ka, .int .i64 na, .str sa, .slice (tsb.map Tm.av)])
    have e4 : ((st.upd b4 (.cells [.int .i64 ka, .int .i64 na, .str sa, .slice (tsa.map Tm.av)])).upd b5 (.cells [.int .i64 ka, .int .i64 na, .str sa, .slice (tsb.map Tm.av)])) b4 = some (.cells [.int .i64 ka, .int .i64 na, .str sa, .slice (tsa.map Tm.av)]) := by rw [Store.upd_ne _ _ h54.symm, Store.upd_same]
    have e5 : ((st.upd b4 (.cells [.int .i64 ka, .int .i64 na, .str sa, .slice (tsa.map Tm.av)])).upd b5 (.cells [.int .i64 ka, .int .i64 na, .str sa, .slice (tsb.map Tm.av)])) b5 = some (.cells [.int .i64 ka, .int .i64 na, .str sa, .slice (tsb.map Tm.av)]) := Store.upd_same _ _ _
    generalize (st.upd b4 (.cells [.int .i64 ka, .int .i64 na, .str sa, .slice (tsa.map Tm.av)])).upd b5 (.cells [.int .i64 ka, .int .i64 na, .str sa, .slice (tsb.map Tm.av)]) = s0 at *
    refine arun_each (σ := Sub × List Int × Store) [1000000, 3, 4] [2, 3, 4] tsa
      (fun i p => IsGood p.1 ∧ AllS OkN p.1 ∧ AQ bb s0 p.1 p.2.2 ∧ unisF g p.1 (tsa.drop i) (tsb.drop i) = some (r, σ', p.2.1))
      (fun i _ => [(6, .bool false), (7, .int .i64 i)]) (fun _ p => p.2.2) (by decide +kernel)
      ⟨(σ, add, s0), ⟨hg, hok, AQ.refl hS0, h4⟩, LessL.mk (by simp -implicitDefEqProofs only [setCells, h54, h54.symm, List.length_map, h1, evb0, evb1, evb2, evb3, evb4, evb5, evb6, evb7, evb8, evb9, ↓evZ2, ↓evZ3, ↓Int.cast_ofNat_Int, implies_true, ne_eq, or_false, false_or, or_self, gt_iff_lt, isMut, aFn, List.contains, List.elem, aBox, aField, aLoad, sub, aNil, aPick, aExt, aFld, gd, noJunk, plainOp, aBuildSlice, aBuild, aFill, aParts, seqParts, fitAll, List.range', ↓reduceIte, reduceCtorEq, Nat.reduceEqDiff, Nat.reduceAdd, Nat.reduceLeDiff, Nat.reduceMul, Nat.reduceLT, Nat.reduceBEq, Int.reduceEq, tf_P2_73])⟩ (fun i x p hx hlt hlt' hdr hinv => ?_) (fun p hge hinv => ?_)
    case refine_2 =>
      obtain ⟨σi, rest, si⟩ := p
      obtain ⟨i1, i2, i3, i5⟩ := hinv
      simp only at i1 i2 i3 i5
      have f4 := i3.2 b4 _ e4 h4b
      rw [List.drop_length, hlen, List.drop_length] at i5
      simp only [unisF, Option.some.injEq, Prod.mk.injEq] at i5
      obtain ⟨rfl, rfl, rfl⟩ := i5
      simp -implicitDefEqProofs only [hge, setCells, f4, List.length_map, evb0, evb1, evb2, evb3, evb4, evb5, evb6, evb7, evb8, evb9, ↓evZ2, ↓evZ3, ↓Int.cast_ofNat_Int, implies_true, ne_eq, or_false, false_or, or_self, gt_iff_lt, isMut, aFn, List.contains, List.elem, aBox, aField, aLoad, sub, aNil, aPick, aExt, aFld, gd, noJunk, plainOp, aBuildSlice, aBuild, aFill, aParts, seqParts, fitAll, List.range', ↓reduceIte, reduceCtorEq, Nat.reduceEqDiff, Nat.reduceAdd, Nat.reduceLeDiff, Nat.reduceMul, Nat.reduceLT, Nat.reduceBEq, Int.reduceEq, tf_P2_73]
      exact hQ0.trans i3
    obtain ⟨σi, rest, si⟩ := p
    obtain ⟨i1, i2, i3, i5⟩ := hinv
    simp only at i1 i2 i3 i5
    obtain ⟨y, hy⟩ : ∃ y, tsb[i]? = some y := ⟨_, List.getElem?_eq_getElem (by omega)⟩
    have hdr' : tsb.drop i = y :: tsb.drop (i + 1) := by
      obtain ⟨h1, h2⟩ := List.getElem?_eq_some_iff.1 hy
      rw [List.drop_eq_getElem_cons h1, h2]
    rw [hdr, hdr', unisF] at i5
    have f4 := i3.2 b4 _ e4 h4b
    have f5 := i3.2 b5 _ e5 h5b
    have hw := wrap64 (n := (i : Int) + 1) (by omega) (by omega)
    simp -implicitDefEqProofs only [hlt', setCells, h54, h54.symm, List.length_map, h1, f4, f5, ev_at (av := Tm.av) eI_27 hx (Tm.av_width x), ev_at (av := Tm.av) eI_27 hy (Tm.av_width y), evb0, evb1, evb2, evb3, evb4, evb5, evb6, evb7, evb8, evb9, ↓evZ2, ↓evZ3, ↓Int.cast_ofNat_Int, implies_true, ne_eq, or_false, false_or, or_self, gt_iff_lt, isMut, aFn, List.contains, List.elem, aBox, aField, aLoad, sub, aNil, aPick, aExt, aFld, gd, noJunk, plainOp, aBuildSlice, aBuild, aFill, aParts, seqParts, fitAll, List.range', ↓reduceIte, reduceCtorEq, Nat.reduceEqDiff, Nat.reduceAdd, Nat.reduceLeDiff, Nat.reduceMul, Nat.reduceLT, Nat.reduceBEq, Int.reduceEq, tf_P2_73]
    refine arun_plan [(0, 1), (2, 1), (5, 1), (7, 1), (10, 1), (1, 2), (3, 1), (4, 2), (6, 2), (8, 1), (9, 2), (11, 0), (12, 1)] [0, 2, 5, 7, 10, 1, 3, 4, 6, 8, 9, 12] mixed (by decide +kernel) (by decide +kernel) (by decide +kernel) ?_
    simp -implicitDefEqProofs only [setCells, h54, h54.symm, List.length_map, h1, f4, f5, ev_at (av := Tm.av) eI_27 hx (Tm.av_width x), ev_at (av := Tm.av) eI_27 hy (Tm.av_width y), evb0, evb1, evb2, evb3, evb4, evb5, evb6, evb7, evb8, evb9, ↓evZ2, ↓evZ3, ↓Int.cast_ofNat_Int, implies_true, ne_eq, or_false, false_or, or_self, gt_iff_lt, isMut, aFn, List.contains, List.elem, aBox, aField, aLoad, sub, aNil, aPick, aExt, aFld, gd, noJunk, plainOp, aBuildSlice, aBuild, aFill, aParts, seqParts, fitAll, List.range', ↓reduceIte, reduceCtorEq, Nat.reduceEqDiff, Nat.reduceAdd, Nat.reduceLeDiff, Nat.reduceMul, Nat.reduceLT, Nat.reduceBEq, Int.reduceEq, tf_P2_73]
    cases hu : uniF g σi x y with
    | none => rw [hu] at i5; cases i5
    | some p1 =>
      obtain ⟨r1, σ1, tr1⟩ := p1
      rw [hu] at i5
      have hx1 : OkN x := hka h1 x (List.mem_of_getElem? hx)
      have hy1 : OkN y := hkb h2 y (List.mem_of_getElem? hy)
      have hU := uniF_uni i1 hu
      have hA := (uni_all okN_kids g).1 σi x y r1 σ1 tr1 i1 hu i2 hx1 hy1
      refine (IH σi x y r1 σ1 tr1 i1 i2 hx1 hy1 hu si i3.1).mono ?_
      rintro _ s2 ⟨rfl, hp2⟩
      cases r1 with
      | false =>
        simp only [Option.some.injEq, Prod.mk.injEq] at i5
        obtain ⟨rfl, rfl, rfl⟩ := i5
        simp -implicitDefEqProofs only [setCells, h54, h54.symm, List.length_map, h1, f4, f5, ev_at (av := Tm.av) eI_27 hx (Tm.av_width x), ev_at (av := Tm.av) eI_27 hy (Tm.av_width y), evb0, evb1, evb2, evb3, evb4, evb5, evb6, evb7, evb8, evb9, ↓evZ2, ↓evZ3, ↓Int.cast_ofNat_Int, implies_true, ne_eq, or_false, false_or, or_self, gt_iff_lt, isMut, aFn, List.contains, List.elem, aBox, aField, aLoad, sub, aNil, aPick, aExt, aFld, gd, noJunk, plainOp, aBuildSlice, aBuild, aFill, aParts, seqParts, fitAll, List.range', ↓reduceIte, reduceCtorEq, Nat.reduceEqDiff, Nat.reduceAdd, Nat.reduceLeDiff, Nat.reduceMul, Nat.reduceLT, Nat.reduceBEq, Int.reduceEq, tf_P2_73]
        exact hQ0.trans (i3.trans hp2)
      | true =>
        simp only at i5
        cases hu2 : unisF g σ1 (tsa.drop (i + 1)) (tsb.drop (i + 1)) with
        | none => rw [hu2] at i5; cases i5
        | some p2 =>
          obtain ⟨r2, σ2, tr2⟩ := p2
          rw [hu2] at i5
          simp only [Option.some.injEq, Prod.mk.injEq] at i5
          obtain ⟨rfl, rfl, _⟩ := i5
          simp -implicitDefEqProofs only [setCells, h54, h54.symm, List.length_map, h1, f4, f5, ev_at (av := Tm.av) eI_27 hx (Tm.av_width x), ev_at (av := Tm.av) eI_27 hy (Tm.av_width y), evb0, evb1, evb2, evb3, evb4, evb5, evb6, evb7, evb8, evb9, ↓evZ2, ↓evZ3, ↓Int.cast_ofNat_Int, implies_true, ne_eq, or_false, false_or, or_self, gt_iff_lt, isMut, aFn, List.contains, List.elem, aBox, aField, aLoad, sub, aNil, aPick, aExt, aFld, gd, noJunk, plainOp, aBuildSlice, aBuild, aFill, aParts, seqParts, fitAll, List.range', ↓reduceIte, reduceCtorEq, Nat.reduceEqDiff, Nat.reduceAdd, Nat.reduceLeDiff, Nat.reduceMul, Nat.reduceLT, Nat.reduceBEq, Int.reduceEq, tf_P2_73]
          exact ⟨(σ1, tr2, s2), ⟨hU.good, hA, i3.trans hp2, hu2⟩, LessL.mk (by simp -implicitDefEqProofs only [hw, setCells, h54, h54.symm, List.length_map, h1, f4, f5, ev_at (av := Tm.av) eI_27 hx (Tm.av_width x), ev_at (av := Tm.av) eI_27 hy (Tm.av_width y), evb0, evb1, evb2, evb3, evb4, evb5, evb6, evb7, evb8, evb9, ↓evZ2, ↓evZ3, ↓Int.cast_ofNat_Int, implies_true, ne_eq, or_false, false_or, or_self, gt_iff_lt, isMut, aFn, List.contains, List.elem, aBox, aField, aLoad, sub, aNil, aPick, aExt, aFld, gd, noJunk, plainOp, aBuildSlice, aBuild, aFill, aParts, seqParts, fitAll, List.range', ↓reduceIte, reduceCtorEq, Nat.reduceEqDiff, Nat.reduceAdd, Nat.reduceLeDiff, Nat.reduceMul, Nat.reduceLT, Nat.reduceBEq, Int.reduceEq, tf_P2_73])⟩
  · have hd : ka = kb → na = nb → sa = sb' → ¬ (tsa.length : Int) = (tsb.length : Int) := by
      intro e1 e2 e3 e4
      have : headEq (Tm.mk ka na sa tsa) (Tm.mk kb nb sb' tsb) = true := headEq_iff.2 ⟨e1, e2, e3, by simp only [Tm.ts]; omega⟩
      rw [h3] at this; cases this
    by_cases e1 : ka = kb
    · by_cases e2 : na = nb
      · by_cases e3 : sa = sb'
        · have e4 := hd e1 e2 e3
          subst e1 e2 e3
          simp -implicitDefEqProofs only [decide_false, decide_true, beq_self_eq_true, setCells, h54, h54.symm, h1, List.length_map, e4, evb0, evb1, evb2, evb3, evb4, evb5, evb6, evb7, evb8, evb9, ↓evZ2, ↓evZ3, ↓Int.cast_ofNat_Int, implies_true, ne_eq, or_false, false_or, or_self, gt_iff_lt, isMut, aFn, List.contains, List.elem, aBox, aField, aLoad, sub, aNil, aPick, aExt, aFld, gd, noJunk, plainOp, aBuildSlice, aBuild, aFill, aParts, seqParts, fitAll, List.range', ↓reduceIte, reduceCtorEq, Nat.reduceEqDiff, Nat.reduceAdd, Nat.reduceLeDiff, Nat.reduceMul, Nat.reduceLT, Nat.reduceBEq, Int.reduceEq, tf_P2_73]
          exact hfin _ _
        · subst e1 e2
          simp -implicitDefEqProofs only [decide_false, decide_true, beq_self_eq_true, setCells, h54, h54.symm, h1, List.length_map, e3, evb0, evb1, evb2, evb3, evb4, evb5, evb6, evb7, evb8, evb9, ↓evZ2, ↓evZ3, ↓Int.cast_ofNat_Int, implies_true, ne_eq, or_false, false_or, or_self, gt_iff_lt, isMut, aFn, List.contains, List.elem, aBox, aField, aLoad, sub, aNil, aPick, aExt, aFld, gd, noJunk, plainOp, aBuildSlice, aBuild, aFill, aParts, seqParts, fitAll, List.range', ↓reduceIte, reduceCtorEq, Nat.reduceEqDiff, Nat.reduceAdd, Nat.reduceLeDiff, Nat.reduceMul, Nat.reduceLT, Nat.reduceBEq, Int.reduceEq, tf_P2_73]
          exact hfin _ _
      · subst e1
        simp -implicitDefEqProofs only [decide_false, decide_true, beq_self_eq_true, setCells, h54, h54.symm, h1, List.length_map, e2, evb0, evb1, evb2, evb3, evb4, evb5, evb6, evb7, evb8, evb9, ↓evZ2, ↓evZ3, ↓Int.cast_ofNat_Int, implies_true, ne_eq, or_false, false_or, or_self, gt_iff_lt, isMut, aFn, List.contains, List.elem, aBox, aField, aLoad, sub, aNil, aPick, aExt, aFld, gd, noJunk, plainOp, aBuildSlice, aBuild, aFill, aParts, seqParts, fitAll, List.range', ↓reduceIte, reduceCtorEq, Nat.reduceEqDiff, Nat.reduceAdd, Nat.reduceLeDiff, Nat.reduceMul, Nat.reduceLT, Nat.reduceBEq, Int.reduceEq, tf_P2_73]
        exact hfin _ _
    · clear hd
      simp -implicitDefEqProofs only [decide_false, decide_true, beq_self_eq_true, setCells, h54, h54.symm, h1, h2, List.length_map, e1, evb0, evb1, evb2, evb3, evb4, evb5, evb6, evb7, evb8, evb9, ↓evZ2, ↓evZ3, ↓Int.cast_ofNat_Int, implies_true, ne_eq, or_false, false_or, or_self, gt_iff_lt, isMut, aFn, List.contains, List.elem, aBox, aField, aLoad, sub, aNil, aPick, aExt, aFld, gd, noJunk, plainOp, aBuildSlice, aBuild, aFill, aParts, seqParts, fitAll, List.range', ↓reduceIte, reduceCtorEq, Nat.reduceEqDiff, Nat.reduceAdd, Nat.reduceLeDiff, Nat.reduceMul, Nat.reduceLT, Nat.reduceBEq, Int.reduceEq, tf_P2_73]
      exact hfin _ _

theorem wk_wk {σ : Sub} {f : Nat} {t u : Tm} (h : WkN σ f t u) : wk σ u = u := (WkN.stop h.end).wk
theorem c_l3Unify (bb : Nat) : ∀ (g : Nat) (σ : Sub) (a b : Tm) (r : Bool) (σ' : Sub) (add : List Int), IsGood σ → AllS OkN σ → OkN a → OkN b → uniF g σ a b = some (r, σ', add) → UF 73 bb σ a b r σ'
  | 0, σ, a, b, r, σ', add, hg, hok, ha, hb, h => by simp only [uniF] at h; cases h
  | g + 1, σ, a, b, r, σ', add, hg, hok, ha, hb, h => by
    refine l3U_body g bb (c_l3Unify bb g) σ a b r σ' add hg hok ha hb h fun h1 h2 => ?_
    obtain ⟨rk, B, G⟩ := hg.rs
    obtain ⟨fa, wa⟩ := G.wk a
    obtain ⟨fb, wb⟩ := G.wk b
    have eb := wk_wk wb
    have ea := wk_wk wa
    have hbn : bnd σ (wk σ b).n (wk σ a) = (r, σ', add) := by
      rcases uniF_cases h with h | h | h | h | h
      · exact absurd h.1 h1
      · exact absurd h.1 h1
      · exact h.2.2
      · exact absurd h2 h.2.1
      · exact absurd h2 h.2.1
    refine l3U_body 0 bb (fun σ a b r σ' add _ _ _ _ h => by simp only [uniF] at h; cases h) σ (wk σ b) (wk σ a) r σ' add hg hok (wb.all (p := OkN) hok hb) (wa.all (p := OkN) hok ha) ?_ fun h3 => ?_
    · rw [uniF, eb, ea, if_neg (fun h => h1 h.2.1), if_pos h2, hbn]
    · rw [eb] at h3; exact absurd h2 h3
end Go.AW

/- The store of bindings in memory: what was bound, in order; steps. -/
namespace Go.AW
set_option linter.unusedSimpArgs false
set_option linter.unusedVariables false

/-- The block of a list that is held. -/
def tbk : AV → List Nat
  | .mslice b _ _ _ => [b]
  | _ => []
def Trail (st : Store) (q : AV) (tr : List Int) : Prop :=
  (q = .fslice [] ∧ tr = []) ∨ ∃ b cs, q = .mslice b 0 tr.length 1 ∧ st b = some (.cells cs) ∧ cs.take tr.length = tr.map iv
structure Sto (st : Store) (c m : Nat) (q : AV) (σ : Sub) (tr : List Int) : Prop where
  sub : SubAt st c m q σ
  trail : Trail st q tr
  apart : c ∉ tbk q
/-- From one store to a later one: only the struct, the map and the list's block have turned. -/
structure StepQ (c m : Nat) (st : Store) (q : AV) (st' : Store) (q' : AV) : Prop where
  frame : ∀ b o, st b = some o → b ≠ c → b ≠ m → b ∉ tbk q → st' b = some o
  fresh : ∀ b ∈ tbk q', b ∈ tbk q ∨ st b = none
def Post (c m : Nat) (st : Store) (q : AV) (σ' : Sub) (tr' : List Int) (st' : Store) : Prop := ∃ q', Sto st' c m q' σ' tr' ∧ StepQ c m st q st' q'

theorem StepQ.refl (c m : Nat) (st : Store) (q : AV) : StepQ c m st q st q := ⟨fun _ _ h _ _ _ => h, fun _ h => .inl h⟩
theorem StepQ.trans {c m : Nat} {st st' st'' : Store} {q q' q'' : AV} {σ : Sub} {tr : List Int} (x : StepQ c m st q st' q') (hS : Sto st' c m q' σ tr) (y : StepQ c m st' q' st'' q'') : StepQ c m st q st'' q'' := by
  refine ⟨fun b o h h1 h2 h3 => ?_, fun b hb => ?_⟩
  · refine y.frame b o (x.frame b o h h1 h2 h3) h1 h2 fun h4 => ?_
    rcases x.fresh b h4 with h5 | h5
    · exact h3 h5
    · rw [h5] at h; cases h
  · rcases y.fresh b hb with h | h
    · exact x.fresh b h
    · by_cases h1 : b ∈ tbk q
      · exact .inl h1
      · refine .inr ?_
        cases hst : st b with
        | none => rfl
        | some o =>
          exfalso
          by_cases hc : b = c
          · subst hc; rw [hS.sub.cells] at h; cases h
          · by_cases hm : b = m
            · subst hm; rw [hS.sub.map] at h; cases h
            · rw [x.frame b o hst hc hm h1] at h; cases h
theorem Sto.tb_some {st : Store} {c m : Nat} {q : AV} {σ : Sub} {tr : List Int} (h : Sto st c m q σ tr) : ∀ b ∈ tbk q, ∃ cs, st b = some (.cells cs) := by
  intro b hb
  rcases h.trail with ⟨rfl, _⟩ | ⟨b', cs, rfl, hb', _⟩
  · simp [tbk] at hb
  · simp only [tbk, List.mem_cons, List.not_mem_nil, or_false] at hb; subst hb; exact ⟨cs, hb'⟩
theorem Sto.m_apart {st : Store} {c m : Nat} {q : AV} {σ : Sub} {tr : List Int} (h : Sto st c m q σ tr) : m ∉ tbk q := fun hb => by
  obtain ⟨cs, e⟩ := h.tb_some m hb
  rw [h.sub.map] at e; cases e
/-- Blocks beside it. -/
theorem Sto.upd {st : Store} {c m b : Nat} {q : AV} {σ : Sub} {tr : List Int} {o : AO} (h : Sto st c m q σ tr) (h1 : b ≠ c) (h2 : b ≠ m) (h3 : b ∉ tbk q) : Sto (st.upd b o) c m q σ tr := by
  refine ⟨h.sub.upd2 h1 h2, ?_, h.apart⟩
  rcases h.trail with h4 | ⟨b', cs, e1, e2, e3⟩
  · exact .inl h4
  · refine .inr ⟨b', cs, e1, ?_, e3⟩
    rw [Store.upd_ne _ _ (by rintro rfl; exact h3 (by rw [e1]; simp [tbk]))]
    exact e2
theorem Sto.upd0 {st : Store} {c m b : Nat} {q : AV} {σ : Sub} {tr : List Int} {o : AO} (h : Sto st c m q σ tr) (hb : st b = none) : Sto (st.upd b o) c m q σ tr :=
  h.upd (h.sub.ne hb).1 (h.sub.ne hb).2 fun h3 => by obtain ⟨cs, e⟩ := h.tb_some b h3; rw [hb] at e; cases e
theorem StepQ.upd0 {c m b : Nat} {st : Store} {q : AV} {o : AO} (hb : st b = none) : StepQ c m st q (st.upd b o) q :=
  ⟨fun x p h _ _ _ => by rw [Store.upd_ne _ _ (by rintro rfl; rw [hb] at h; cases h)]; exact h, fun _ h => .inl h⟩
theorem Sto.shape {st : Store} {c m : Nat} {q : AV} {σ : Sub} {tr : List Int} (h : Sto st c m q σ tr) : q.isAgg = false ∧ q.width = 1 ∧ q.isJunk = false ∧ q.cells = [q] ∧ q.storable = true := by
  rcases h.trail with ⟨rfl, _⟩ | ⟨b', cs, rfl, _⟩ <;> exact ⟨rfl, rfl, rfl, rfl, rfl⟩

theorem Post.from {c m : Nat} {st s0 st' : Store} {q q0 : AV} {σ σ' : Sub} {tr tr' : List Int} (h : Post c m s0 q0 σ' tr' st') (x : StepQ c m st q s0 q0) (hS : Sto s0 c m q0 σ tr) : Post c m st q σ' tr' st' := by
  obtain ⟨q', h1, h2⟩ := h
  exact ⟨q', h1, x.trans hS h2⟩
/-- One more is noted. -/
theorem trail_append {P : Program} {t : TypeId} {ag : Bool} {bytes : Nat} {zs : List AV} {st : Store} {c m : Nat} {q : AV} {σ : Sub} {tr : List Int} {n : Int} {K : AV → Store → Prop} (hI : eI P t = some (ag, 1)) (hB : eB P t = some bytes) (hZ : eZ P t = some zs) (hz : zs.length = 1) (hb8 : bytes ≤ 16)
    (h : Sto st c m q σ tr) (hl : tr.length + 1 ≤ 1099511627776)
    (hK : ∀ q' st', Trail st' q' (tr ++ [n]) → c ∉ tbk q' → m ∉ tbk q' → (∀ x, x ∉ tbk q → x ∉ tbk q' → st' x = st x) → (∀ x ∈ tbk q', x ∈ tbk q ∨ st x = none) → K q' st') : aAppend P t st q (.fslice [.int .i64 n]) K := by
  have hfit : appFit 1 [AV.int .i64 n] := by intro e he; simp only [List.mem_cons, List.not_mem_nil, or_false] at he; subst he; exact ⟨rfl, rfl⟩
  have hbytes : (tr.length + 1) * bytes ≤ 140737488355328 := by
    have := Nat.mul_le_mul hl hb8
    omega
  unfold aAppend
  simp only [hI, hB, hZ, aElems]
  refine ⟨hz, hfit, ?_⟩
  have hcm : ∀ x, st x = none → x ≠ c ∧ x ≠ m := fun x hx => h.sub.ne hx
  rcases h.trail with ⟨rfl, rfl⟩ | ⟨b, cs, rfl, hb, hcs⟩
  · simp only [List.length_nil, List.length_cons, Nat.zero_add] at hbytes ⊢
    refine ⟨by omega, by omega, by simp, fun h => by simp at h, fun _ b hb => ?_⟩
    refine hK _ _ (.inr ⟨b, [.int .i64 n], rfl, Store.upd_same _ _ _, rfl⟩) (by simp only [tbk, List.mem_cons, List.not_mem_nil, or_false]; exact Ne.symm (hcm b hb).1) (by simp only [tbk, List.mem_cons, List.not_mem_nil, or_false]; exact Ne.symm (hcm b hb).2) (fun x _ hx => ?_) (fun x hx => ?_)
    · simp only [tbk, List.mem_cons, List.not_mem_nil, or_false] at hx
      rw [Store.upd_ne _ _ hx]
    · simp only [tbk, List.mem_cons, List.not_mem_nil, or_false] at hx
      subst hx; exact .inr hb
  · simp only [List.length_cons, List.length_nil, Nat.zero_add, hb]
    have hlen : tr.length ≤ cs.length := by
      have := congrArg List.length hcs
      simp only [List.length_take, List.length_map] at this
      omega
    have hca : c ≠ b := fun e => h.apart (by simp [tbk, e])
    have hma : m ≠ b := fun e => h.m_apart (by simp [tbk, e])
    have hnew : cs.take (tr.length * 1) ++ [AV.int .i64 n].flatMap AV.cells = (tr ++ [n]).map iv := by rw [Nat.mul_one, hcs]; simp [AV.cells]
    refine ⟨trivial, hbytes, by omega, by omega, ?_, fun b' hb' => ?_⟩
    · rw [hnew]
      refine hK _ _ (.inr ⟨b, _, by simp, Store.upd_same _ _ _, by rw [List.take_of_length_le (by simp)]⟩) (by simpa [tbk] using hca) (by simpa [tbk] using hma) (fun x hx _ => ?_) (fun x hx => .inl hx)
      simp only [tbk, List.mem_cons, List.not_mem_nil, or_false] at hx
      rw [Store.upd_ne _ _ hx]
    · rw [hnew]
      obtain ⟨hc', hm'⟩ := hcm b' hb'
      refine hK _ _ (.inr ⟨b', _, by simp, Store.upd_same _ _ _, by rw [List.take_of_length_le (by simp)]⟩) (by simpa [tbk] using Ne.symm hc') (by simpa [tbk] using Ne.symm hm') (fun x hx hx' => ?_) (fun x hx => ?_)
      · simp only [tbk, List.mem_cons, List.not_mem_nil, or_false] at hx hx'
        rw [Store.upd_ne _ _ hx']
        simp [Store.erase, hx]
      · simp only [tbk, List.mem_cons, List.not_mem_nil, or_false] at hx
        subst hx; exact .inr hb'
end Go.AW


/- The program's store of bindings: walking. -/
namespace Go.AW
open Go.Proofs.Try
set_option linter.unusedSimpArgs false
set_option maxRecDepth 100000

theorem tf_S1_122 : (type_of% tI_2) ∧ (type_of% zI_2) ∧ (type_of% Go.Proofs.Try.underlying2) ∧ (type_of% tI_3) ∧ (type_of% zI_3) ∧ (type_of% Go.Proofs.Try.underlying3) ∧ (type_of% tI_4) ∧ (type_of% zI_4) ∧ (type_of% Go.Proofs.Try.underlying4) ∧ (type_of% tI_5) ∧ (type_of% zI_5) ∧ (type_of% Go.Proofs.Try.underlying5) ∧ (type_of% tI_6) ∧ (type_of% zI_6) ∧ (type_of% Go.Proofs.Try.underlying6) ∧ (type_of% tI_7) ∧ (type_of% zI_7) ∧ (type_of% fI_7_0) ∧ (type_of% fI_7_1) ∧ (type_of% fI_7_2) ∧ (type_of% fI_7_3) ∧ (type_of% bI_7) ∧ (type_of% tI_13) ∧ (type_of% zI_13) ∧ (type_of% fI_13_0) ∧ (type_of% fI_13_1) ∧ (type_of% bI_13) ∧ (type_of% tI_22) ∧ (type_of% zI_22) ∧ (type_of% eI_22) ∧ (type_of% eB_22) ∧ (type_of% eZ_22) ∧ (type_of% Go.Proofs.Try.underlying22) ∧ (type_of% tI_24) ∧ (type_of% zI_24) ∧ (type_of% fI_24_0) ∧ (type_of% bI_24) ∧ (type_of% tI_41) ∧ (type_of% zI_41) ∧ (type_of% fI_41_0) ∧ (type_of% fI_41_1) ∧ (type_of% fI_41_2) ∧ (type_of% fI_41_3) ∧ (type_of% bI_41) ∧ (type_of% tI_64) ∧ (type_of% zI_64) ∧ (type_of% fI_64_0) ∧ (type_of% fI_64_1) ∧ (type_of% bI_64) ∧ (type_of% tI_102) ∧ (type_of% zI_102) ∧ (type_of% tI_147) ∧ (type_of% zI_147) ∧ (type_of% Go.Proofs.Try.underlying147) ∧ (type_of% tI_157) ∧ (type_of% zI_157) ∧ (type_of% fI_157_0) ∧ (type_of% fI_157_1) ∧ (type_of% bI_157) := ⟨tI_2, zI_2, Go.Proofs.Try.underlying2, tI_3, zI_3, Go.Proofs.Try.underlying3, tI_4, zI_4, Go.Proofs.Try.underlying4, tI_5, zI_5, Go.Proofs.Try.underlying5, tI_6, zI_6, Go.Proofs.Try.underlying6, tI_7, zI_7, fI_7_0, fI_7_1, fI_7_2, fI_7_3, bI_7, tI_13, zI_13, fI_13_0, fI_13_1, bI_13, tI_22, zI_22, eI_22, eB_22, eZ_22, Go.Proofs.Try.underlying22, tI_24, zI_24, fI_24_0, bI_24, tI_41, zI_41, fI_41_0, fI_41_1, fI_41_2, fI_41_3, bI_41, tI_64, zI_64, fI_64_0, fI_64_1, bI_64, tI_102, zI_102, tI_147, zI_147, Go.Proofs.Try.underlying147, tI_157, zI_157, fI_157_0, fI_157_1, bI_157⟩
theorem c_walk {σ : Sub} {f : Nat} {t u : Tm} (hw : WkN σ f t u) (c m : Nat) (q : AV) (st : Store) (hS : SubAt st c m q σ) : ACalls prog 122 [.ptr c 0, t.av] st (fun r st' => r = u.av ∧ st' = st) := by
  refine ACalls.done ?_
  refine acalls_fit [1000000, 3] func122 ntmps122 rfl rfl (by kernel_rfl) (by decide +kernel) (by show 2 ≤ _; decide +kernel) ?_
  intro _
  simp -implicitDefEqProofs only [setCells, evb0, evb1, evb2, evb3, evb4, evb5, evb6, evb7, evb8, evb9, ↓evZ2, ↓evZ3, ↓Int.cast_ofNat_Int, implies_true, ne_eq, or_false, false_or, or_self, gt_iff_lt, isMut, aFn, List.contains, List.elem, aBox, aField, aLoad, sub, aNil, aPick, aExt, aFld, gd, noJunk, plainOp, aBuildSlice, aBuild, aFill, aParts, seqParts, fitAll, List.range', ↓reduceIte, reduceCtorEq, Nat.reduceEqDiff, Nat.reduceAdd, Nat.reduceLeDiff, Nat.reduceMul, Nat.reduceLT, Nat.reduceBEq, Int.reduceEq, tf_S1_122]
  intro b3 h3 b4 h4
  have hne : b4 ≠ b3 := by rintro rfl; rw [Store.upd_same] at h4; cases h4
  have hn4 : st b4 = none := by rw [Store.upd_ne st _ hne] at h4; exact h4
  have hD : ∀ o o', Drops ((st.upd b3 o).upd b4 o') st := fun o o' => ((Drops.refl _).upd h3).upd hn4
  have hS' : ∀ o o', SubAt ((st.upd b3 o).upd b4 o') c m q σ := fun o o' => (hS.upd h3).upd (by rw [Store.upd_ne _ _ hne]; exact hn4)
  obtain ⟨hn3c, hn3m⟩ := hS.ne h3
  obtain ⟨hn4c, hn4m⟩ := hS.ne hn4
  refine arun_whileK (σ := Nat × Tm) [1000000, 3] [0, 3, 4] (fun p => WkN σ p.1 p.2 u) (fun p => []) (fun p => (st.upd b3 (.cells p.2.av.cells)).upd b4 (.cells [.int .i64 0, .int .i64 0, .str ⟨#[]⟩, .fslice []])) (fun p => p.1) (by decide +kernel) ⟨(f, t), hw, LessL.mk (by simp -implicitDefEqProofs only [setCells, evb0, evb1, evb2, evb3, evb4, evb5, evb6, evb7, evb8, evb9, ↓evZ2, ↓evZ3, ↓Int.cast_ofNat_Int, implies_true, ne_eq, or_false, false_or, or_self, gt_iff_lt, isMut, aFn, List.contains, List.elem, aBox, aField, aLoad, sub, aNil, aPick, aExt, aFld, gd, noJunk, plainOp, aBuildSlice, aBuild, aFill, aParts, seqParts, fitAll, List.range', ↓reduceIte, reduceCtorEq, Nat.reduceEqDiff, Nat.reduceAdd, Nat.reduceLeDiff, Nat.reduceMul, Nat.reduceLT, Nat.reduceBEq, Int.reduceEq, tf_S1_122])⟩ ?_
  rintro ⟨g, t⟩ hw
  obtain ⟨k, n, s, ts⟩ := t
  simp only at hw
  simp only [Tm.av_mk]
  simp -implicitDefEqProofs only [setCells, hne, hne.symm, hS.cells, hn3c.symm, hn4c.symm, hn3m.symm, hn4m.symm, evb0, evb1, evb2, evb3, evb4, evb5, evb6, evb7, evb8, evb9, ↓evZ2, ↓evZ3, ↓Int.cast_ofNat_Int, implies_true, ne_eq, or_false, false_or, or_self, gt_iff_lt, isMut, aFn, List.contains, List.elem, aBox, aField, aLoad, sub, aNil, aPick, aExt, aFld, gd, noJunk, plainOp, aBuildSlice, aBuild, aFill, aParts, seqParts, fitAll, List.range', ↓reduceIte, reduceCtorEq, Nat.reduceEqDiff, Nat.reduceAdd, Nat.reduceLeDiff, Nat.reduceMul, Nat.reduceLT, Nat.reduceBEq, Int.reduceEq, tf_S1_122]
  refine cond_split (fun h => ?_) (fun h => ?_)
  case refine_2 =>
    simp only [decide_eq_false_iff_not] at h
    cases hw with
    | go h1 => exact absurd h1 h
    | stop =>
      simp -implicitDefEqProofs only [setCells, hne, hne.symm, hS.cells, hn3c.symm, hn4c.symm, hn3m.symm, hn4m.symm, evb0, evb1, evb2, evb3, evb4, evb5, evb6, evb7, evb8, evb9, ↓evZ2, ↓evZ3, ↓Int.cast_ofNat_Int, implies_true, ne_eq, or_false, false_or, or_self, gt_iff_lt, isMut, aFn, List.contains, List.elem, aBox, aField, aLoad, sub, aNil, aPick, aExt, aFld, gd, noJunk, plainOp, aBuildSlice, aBuild, aFill, aParts, seqParts, fitAll, List.range', ↓reduceIte, reduceCtorEq, Nat.reduceEqDiff, Nat.reduceAdd, Nat.reduceLeDiff, Nat.reduceMul, Nat.reduceLT, Nat.reduceBEq, Int.reduceEq, tf_S1_122]
      exact ⟨by rw [← Tm.av_mk, Tm.soft], hD _ _⟩
  simp only [decide_eq_true_eq] at h
  simp -implicitDefEqProofs only [setCells, hne, hne.symm, hS.cells, hn3c.symm, hn4c.symm, hn3m.symm, hn4m.symm, evb0, evb1, evb2, evb3, evb4, evb5, evb6, evb7, evb8, evb9, ↓evZ2, ↓evZ3, ↓Int.cast_ofNat_Int, implies_true, ne_eq, or_false, false_or, or_self, gt_iff_lt, isMut, aFn, List.contains, List.elem, aBox, aField, aLoad, sub, aNil, aPick, aExt, aFld, gd, noJunk, plainOp, aBuildSlice, aBuild, aFill, aParts, seqParts, fitAll, List.range', ↓reduceIte, reduceCtorEq, Nat.reduceEqDiff, Nat.reduceAdd, Nat.reduceLeDiff, Nat.reduceMul, Nat.reduceLT, Nat.reduceBEq, Int.reduceEq, tf_S1_122]
  refine arun_plan [(0, 1), (1, 1), (2, 1), (4, 1), (3, 2), (5, 2), (6, 2), (7, 1), (8, 1), (9, 1), (10, 0), (11, 0), (12, 1)] [0, 1, 2, 4, 3, 5, 6, 7, 8, 9, 12] mixed (by decide +kernel) (by decide +kernel) (by decide +kernel) ?_
  have hl := fun (st' : Store) (hm : st' m = some (AO.map (mapOf σ))) => look_sub (P := prog) (n := n) hm underlying147 underlying3 zV_41
  simp -implicitDefEqProofs only [setCells, hne, hne.symm, hS.cells, hn3c.symm, hn4c.symm, hn3m.symm, hn4m.symm, evb0, evb1, evb2, evb3, evb4, evb5, evb6, evb7, evb8, evb9, ↓evZ2, ↓evZ3, ↓Int.cast_ofNat_Int, implies_true, ne_eq, or_false, false_or, or_self, gt_iff_lt, isMut, aFn, List.contains, List.elem, aBox, aField, aLoad, sub, aNil, aPick, aExt, aFld, gd, noJunk, plainOp, aBuildSlice, aBuild, aFill, aParts, seqParts, fitAll, List.range', ↓reduceIte, reduceCtorEq, Nat.reduceEqDiff, Nat.reduceAdd, Nat.reduceLeDiff, Nat.reduceMul, Nat.reduceLT, Nat.reduceBEq, Int.reduceEq, tf_S1_122]
  rw [hl _ (hS' _ _).map]
  cases hw with
  | stop hs =>
    rw [show σ n = none from hs h]
    simp -implicitDefEqProofs only [found, setCells, hne, hne.symm, hS.cells, hn3c.symm, hn4c.symm, hn3m.symm, hn4m.symm, evb0, evb1, evb2, evb3, evb4, evb5, evb6, evb7, evb8, evb9, ↓evZ2, ↓evZ3, ↓Int.cast_ofNat_Int, implies_true, ne_eq, or_false, false_or, or_self, gt_iff_lt, isMut, aFn, List.contains, List.elem, aBox, aField, aLoad, sub, aNil, aPick, aExt, aFld, gd, noJunk, plainOp, aBuildSlice, aBuild, aFill, aParts, seqParts, fitAll, List.range', ↓reduceIte, reduceCtorEq, Nat.reduceEqDiff, Nat.reduceAdd, Nat.reduceLeDiff, Nat.reduceMul, Nat.reduceLT, Nat.reduceBEq, Int.reduceEq, tf_S1_122]
    intro b5 h5
    have h53 : b5 ≠ b3 := by rintro rfl; simp [Store.upd_ne, Store.upd_same, hne.symm] at h5
    have h54 : b5 ≠ b4 := by rintro rfl; simp [Store.upd_same] at h5
    have hn5 : st b5 = none := by rw [Store.upd_ne _ _ h54, Store.upd_ne _ _ h53] at h5; exact h5
    simp -implicitDefEqProofs only [setCells, hne, hne.symm, h53, h54, h53.symm, h54.symm, evb0, evb1, evb2, evb3, evb4, evb5, evb6, evb7, evb8, evb9, ↓evZ2, ↓evZ3, ↓Int.cast_ofNat_Int, implies_true, ne_eq, or_false, false_or, or_self, gt_iff_lt, isMut, aFn, List.contains, List.elem, aBox, aField, aLoad, sub, aNil, aPick, aExt, aFld, gd, noJunk, plainOp, aBuildSlice, aBuild, aFill, aParts, seqParts, fitAll, List.range', ↓reduceIte, reduceCtorEq, Nat.reduceEqDiff, Nat.reduceAdd, Nat.reduceLeDiff, Nat.reduceMul, Nat.reduceLT, Nat.reduceBEq, Int.reduceEq, tf_S1_122]
    exact ⟨by rw [← Tm.av_mk, Tm.soft], ((((Drops.refl _).upd h3).upd hn4).upd hn5).upd hn4⟩
  | go _ h2 h3' =>
    rw [show σ n = some _ from h2]
    simp -implicitDefEqProofs only [found, setCells, hne, hne.symm, evb0, evb1, evb2, evb3, evb4, evb5, evb6, evb7, evb8, evb9, ↓evZ2, ↓evZ3, ↓Int.cast_ofNat_Int, implies_true, ne_eq, or_false, false_or, or_self, gt_iff_lt, isMut, aFn, List.contains, List.elem, aBox, aField, aLoad, sub, aNil, aPick, aExt, aFld, gd, noJunk, plainOp, aBuildSlice, aBuild, aFill, aParts, seqParts, fitAll, List.range', ↓reduceIte, reduceCtorEq, Nat.reduceEqDiff, Nat.reduceAdd, Nat.reduceLeDiff, Nat.reduceMul, Nat.reduceLT, Nat.reduceBEq, Int.reduceEq, tf_S1_122]
    intro b5 h5
    have h53 : b5 ≠ b3 := by rintro rfl; simp [Store.upd_ne, Store.upd_same, hne.symm] at h5
    have h54 : b5 ≠ b4 := by rintro rfl; simp [Store.upd_same] at h5
    have hn5 : st b5 = none := by rw [Store.upd_ne _ _ h54, Store.upd_ne _ _ h53] at h5; exact h5
    simp -implicitDefEqProofs only [setCells, hne, hne.symm, h53, h54, h53.symm, h54.symm, evb0, evb1, evb2, evb3, evb4, evb5, evb6, evb7, evb8, evb9, ↓evZ2, ↓evZ3, ↓Int.cast_ofNat_Int, implies_true, ne_eq, or_false, false_or, or_self, gt_iff_lt, isMut, aFn, List.contains, List.elem, aBox, aField, aLoad, sub, aNil, aPick, aExt, aFld, gd, noJunk, plainOp, aBuildSlice, aBuild, aFill, aParts, seqParts, fitAll, List.range', ↓reduceIte, reduceCtorEq, Nat.reduceEqDiff, Nat.reduceAdd, Nat.reduceLeDiff, Nat.reduceMul, Nat.reduceLT, Nat.reduceBEq, Int.reduceEq, tf_S1_122]
    refine ⟨(_, _), Nat.lt_succ_self _, h3', LessL.drop (fun x => ?_) (by simp -implicitDefEqProofs only [setCells, hne, hne.symm, h53, h54, h53.symm, h54.symm, evb0, evb1, evb2, evb3, evb4, evb5, evb6, evb7, evb8, evb9, ↓evZ2, ↓evZ3, ↓Int.cast_ofNat_Int, implies_true, ne_eq, or_false, false_or, or_self, gt_iff_lt, isMut, aFn, List.contains, List.elem, aBox, aField, aLoad, sub, aNil, aPick, aExt, aFld, gd, noJunk, plainOp, aBuildSlice, aBuild, aFill, aParts, seqParts, fitAll, List.range', ↓reduceIte, reduceCtorEq, Nat.reduceEqDiff, Nat.reduceAdd, Nat.reduceLeDiff, Nat.reduceMul, Nat.reduceLT, Nat.reduceBEq, Int.reduceEq, tf_S1_122])⟩
    by_cases e3 : x = b3 <;> by_cases e4 : x = b4 <;> by_cases e5 : x = b5 <;> simp_all [Store.upd]
end Go.AW
