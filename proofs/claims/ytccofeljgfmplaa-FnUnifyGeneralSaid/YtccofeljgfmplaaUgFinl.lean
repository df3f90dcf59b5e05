import Derived.Test.YtccofeljgfmplaaUgFink
import Derived.Test.YtccofeljgfmplaaUgFinj
import Derived.Test.YtccofeljgfmplaaUgFini

/- Valid terms: what the program's functions return. -/
namespace Go.AW
open Go.Proofs.Try
set_option linter.unusedSimpArgs false
set_option maxRecDepth 100000

theorem tf_Gs7_77 : (type_of% tI_2) ∧ (type_of% zI_2) ∧ (type_of% Go.Proofs.Try.underlying2) ∧ (type_of% tI_3) ∧ (type_of% zI_3) ∧ (type_of% Go.Proofs.Try.underlying3) ∧ (type_of% tI_4) ∧ (type_of% zI_4) ∧ (type_of% Go.Proofs.Try.underlying4) ∧ (type_of% tI_5) ∧ (type_of% zI_5) ∧ (type_of% Go.Proofs.Try.underlying5) ∧ (type_of% tI_6) ∧ (type_of% zI_6) ∧ (type_of% Go.Proofs.Try.underlying6) ∧ (type_of% tI_7) ∧ (type_of% zI_7) ∧ (type_of% fI_7_0) ∧ (type_of% fI_7_1) ∧ (type_of% fI_7_2) ∧ (type_of% fI_7_3) ∧ (type_of% bI_7) ∧ (type_of% tI_8) ∧ (type_of% zI_8) ∧ (type_of% fI_8_0) ∧ (type_of% fI_8_1) ∧ (type_of% fI_8_2) ∧ (type_of% fI_8_3) ∧ (type_of% bI_8) ∧ (type_of% tI_9) ∧ (type_of% zI_9) ∧ (type_of% Go.Proofs.Try.underlying9) ∧ (type_of% tI_10) ∧ (type_of% zI_10) ∧ (type_of% Go.Proofs.Try.underlying10) ∧ (type_of% tI_11) ∧ (type_of% zI_11) ∧ (type_of% Go.Proofs.Try.underlying11) ∧ (type_of% tI_12) ∧ (type_of% zI_12) ∧ (type_of% Go.Proofs.Try.underlying12) ∧ (type_of% tI_13) ∧ (type_of% zI_13) ∧ (type_of% fI_13_0) ∧ (type_of% fI_13_1) ∧ (type_of% bI_13) ∧ (type_of% tI_27) ∧ (type_of% zI_27) ∧ (type_of% eI_27) ∧ (type_of% eB_27) ∧ (type_of% eZ_27) ∧ (type_of% Go.Proofs.Try.underlying27) ∧ (type_of% tI_41) ∧ (type_of% zI_41) ∧ (type_of% fI_41_0) ∧ (type_of% fI_41_1) ∧ (type_of% fI_41_2) ∧ (type_of% fI_41_3) ∧ (type_of% bI_41) ∧ (type_of% tI_60) ∧ (type_of% zI_60) ∧ (type_of% eI_60) ∧ (type_of% eB_60) ∧ (type_of% eZ_60) ∧ (type_of% Go.Proofs.Try.underlying60) ∧ (type_of% tI_62) ∧ (type_of% zI_62) ∧ (type_of% eI_62) ∧ (type_of% eB_62) ∧ (type_of% eZ_62) ∧ (type_of% Go.Proofs.Try.underlying62) ∧ (type_of% tI_64) ∧ (type_of% zI_64) ∧ (type_of% fI_64_0) ∧ (type_of% fI_64_1) ∧ (type_of% bI_64) ∧ (type_of% tI_73) ∧ (type_of% zI_73) ∧ (type_of% eI_73) ∧ (type_of% eB_73) ∧ (type_of% eZ_73) ∧ (type_of% Go.Proofs.Try.underlying73) ∧ (type_of% tI_74) ∧ (type_of% zI_74) ∧ (type_of% fI_74_0) ∧ (type_of% fI_74_1) ∧ (type_of% fI_74_2) ∧ (type_of% fI_74_3) ∧ (type_of% fI_74_4) ∧ (type_of% fI_74_5) ∧ (type_of% bI_74) ∧ (type_of% tI_111) ∧ (type_of% zI_111) ∧ (type_of% tI_118) ∧ (type_of% zI_118) ∧ (type_of% fI_118_0) ∧ (type_of% fI_118_1) ∧ (type_of% bI_118) ∧ (type_of% tI_120) ∧ (type_of% zI_120) ∧ (type_of% fI_120_0) ∧ (type_of% fI_120_1) ∧ (type_of% fI_120_2) ∧ (type_of% fI_120_3) ∧ (type_of% fI_120_4) ∧ (type_of% fI_120_5) ∧ (type_of% fI_120_6) ∧ (type_of% bI_120) ∧ (type_of% tI_131) ∧ (type_of% zI_131) ∧ (type_of% fI_131_0) ∧ (type_of% fI_131_1) ∧ (type_of% bI_131) := ⟨tI_2, zI_2, Go.Proofs.Try.underlying2, tI_3, zI_3, Go.Proofs.Try.underlying3, tI_4, zI_4, Go.Proofs.Try.underlying4, tI_5, zI_5, Go.Proofs.Try.underlying5, tI_6, zI_6, Go.Proofs.Try.underlying6, tI_7, zI_7, fI_7_0, fI_7_1, fI_7_2, fI_7_3, bI_7, tI_8, zI_8, fI_8_0, fI_8_1, fI_8_2, fI_8_3, bI_8, tI_9, zI_9, Go.Proofs.Try.underlying9, tI_10, zI_10, Go.Proofs.Try.underlying10, tI_11, zI_11, Go.Proofs.Try.underlying11, tI_12, zI_12, Go.Proofs.Try.underlying12, tI_13, zI_13, fI_13_0, fI_13_1, bI_13, tI_27, zI_27, eI_27, eB_27, eZ_27, Go.Proofs.Try.underlying27, tI_41, zI_41, fI_41_0, fI_41_1, fI_41_2, fI_41_3, bI_41, tI_60, zI_60, eI_60, eB_60, eZ_60, Go.Proofs.Try.underlying60, tI_62, zI_62, eI_62, eB_62, eZ_62, Go.Proofs.Try.underlying62, tI_64, zI_64, fI_64_0, fI_64_1, bI_64, tI_73, zI_73, eI_73, eB_73, eZ_73, Go.Proofs.Try.underlying73, tI_74, zI_74, fI_74_0, fI_74_1, fI_74_2, fI_74_3, fI_74_4, fI_74_5, bI_74, tI_111, zI_111, tI_118, zI_118, fI_118_0, fI_118_1, bI_118, tI_120, zI_120, fI_120_0, fI_120_1, fI_120_2, fI_120_3, fI_120_4, fI_120_5, fI_120_6, bI_120, tI_131, zI_131, fI_131_0, fI_131_1, bI_131⟩
theorem c_scan : ∀ (t : Tm) (d c : Int) (b : Nat) (st : Store), st b = some (.cells [.int .i64 c]) → 0 ≤ c → c ≤ 120 → 0 ≤ d → d ≤ 31 → ACalls prog 77 [t.av, .int .i64 d, .ptr b 0] st (scanned (t.shape (31 - d)) c t.nodes b st)
  | .mk k n s ts, d, c, b, st, hb, hc0, hc1, hd0, hd1 => by
    have hk := fun (st : Store) (hb : st b = some (.cells [.int .i64 (c + 1)])) (h1 : c + 1 ≤ 120) (h2 : d ≤ 30) => c_ContainsScan ts d (c + 1) b st (by omega) (by omega) hb (by omega) h1 fun x hx c st hb hc0 hc1 => by
      have := c_scan x (d + 1) c b st hb hc0 hc1 (by omega) (by omega)
      rw [show (31 : Int) - (d + 1) = 30 - d by omega] at this
      exact this
    have hw := wrap64 (n := c + 1) (by omega) (by omega)
    unfold scanned
    rw [Tm.nodes_mk, Tm.shape_mk]
    refine acalls_fit [] func77 ntmps77 rfl rfl (by kernel_rfl) (by decide +kernel) (by show 3 ≤ _; decide +kernel) ?_
    simp only [Tm.av_mk, fitsL, AV.fits, and_true, List.length_map]
    intro ⟨_, _, _, hl, _⟩
    simp -implicitDefEqProofs only [hb, setCells, hw, evb0, evb1, evb2, evb3, evb4, evb5, evb6, evb7, evb8, evb9, ↓evZ2, ↓evZ3, ↓Int.cast_ofNat_Int, implies_true, ne_eq, or_false, false_or, or_self, gt_iff_lt, isMut, aFn, List.contains, List.elem, aBox, aField, aLoad, sub, aNil, aPick, aExt, aFld, gd, noJunk, plainOp, aBuildSlice, aBuild, aFill, aParts, seqParts, fitAll, List.range', ↓reduceIte, reduceCtorEq, Nat.reduceEqDiff, Nat.reduceAdd, Nat.reduceLeDiff, Nat.reduceMul, Nat.reduceLT, Nat.reduceBEq, Int.reduceEq, tf_Gs7_77]
    have hL : (ts.map Tm.av).length = ts.length := List.length_map _
    have hfin : ∀ (v : Bool), v = (decide (c + ((1 + sumL Tm.nodes ts : Nat) : Int) ≤ 120) && (decide (1 ≤ 31 - d) && ownOk k n s ts.length && ts.all fun t => t.shape (31 - d - 1))) → (v = true → ts = []) →
        ∃ c', AV.bool v = AV.bool (decide (c + ((1 + sumL Tm.nodes ts : Nat) : Int) ≤ 120) && (decide (1 ≤ 31 - d) && ownOk k n s ts.length && ts.all fun t => t.shape (31 - d - 1))) ∧ st.upd b (.cells [.int .i64 (c + 1)]) = st.upd b (.cells [.int .i64 c']) ∧ ((decide (c + ((1 + sumL Tm.nodes ts : Nat) : Int) ≤ 120) && (decide (1 ≤ 31 - d) && ownOk k n s ts.length && ts.all fun t => t.shape (31 - d - 1))) = true → c' = c + ((1 + sumL Tm.nodes ts : Nat) : Int)) :=
      fun v h1 h2 => ⟨c + 1, by rw [h1], rfl, fun h3 => by rw [h2 (h1.trans h3)]; simp [sumL]⟩
    refine opsG_split (fun h1 => ?_) (fun h1 => ?_)
    case refine_2 =>
      simp -implicitDefEqProofs only [h1, evb0, evb1, evb2, evb3, evb4, evb5, evb6, evb7, evb8, evb9, ↓evZ2, ↓evZ3, ↓Int.cast_ofNat_Int, implies_true, ne_eq, or_false, false_or, or_self, gt_iff_lt, isMut, aFn, List.contains, List.elem, aBox, aField, aLoad, sub, aNil, aPick, aExt, aFld, gd, noJunk, plainOp, aBuildSlice, aBuild, aFill, aParts, seqParts, fitAll, List.range', ↓reduceIte, reduceCtorEq, Nat.reduceEqDiff, Nat.reduceAdd, Nat.reduceLeDiff, Nat.reduceMul, Nat.reduceLT, Nat.reduceBEq, Int.reduceEq, tf_Gs7_77]
      simp only [Bool.not_false, decide_eq_true_eq] at h1
      refine hfin false ?_ (by intro h; cases h)
      rw [show decide (c + ((1 + sumL Tm.nodes ts : Nat) : Int) ≤ 120) = false by simp; omega]
      rfl
    simp -implicitDefEqProofs only [h1, evb0, evb1, evb2, evb3, evb4, evb5, evb6, evb7, evb8, evb9, ↓evZ2, ↓evZ3, ↓Int.cast_ofNat_Int, implies_true, ne_eq, or_false, false_or, or_self, gt_iff_lt, isMut, aFn, List.contains, List.elem, aBox, aField, aLoad, sub, aNil, aPick, aExt, aFld, gd, noJunk, plainOp, aBuildSlice, aBuild, aFill, aParts, seqParts, fitAll, List.range', ↓reduceIte, reduceCtorEq, Nat.reduceEqDiff, Nat.reduceAdd, Nat.reduceLeDiff, Nat.reduceMul, Nat.reduceLT, Nat.reduceBEq, Int.reduceEq, tf_Gs7_77]
    refine ⟨fun h2 => ?_, fun h2 => ?_⟩
    · simp -implicitDefEqProofs only [evb0, evb1, evb2, evb3, evb4, evb5, evb6, evb7, evb8, evb9, ↓evZ2, ↓evZ3, ↓Int.cast_ofNat_Int, implies_true, ne_eq, or_false, false_or, or_self, gt_iff_lt, isMut, aFn, List.contains, List.elem, aBox, aField, aLoad, sub, aNil, aPick, aExt, aFld, gd, noJunk, plainOp, aBuildSlice, aBuild, aFill, aParts, seqParts, fitAll, List.range', ↓reduceIte, reduceCtorEq, Nat.reduceEqDiff, Nat.reduceAdd, Nat.reduceLeDiff, Nat.reduceMul, Nat.reduceLT, Nat.reduceBEq, Int.reduceEq, tf_Gs7_77]
      simp only [decide_eq_true_eq] at h2
      refine hfin false ?_ (by intro h; cases h)
      rw [show decide (1 ≤ 31 - d) = false by simp; omega]
      simp
    simp only [decide_eq_false_iff_not] at h1 h2
    rw [show decide (1 ≤ 31 - d) = true by simp; omega] at hfin ⊢
    simp only [Bool.true_and] at hfin ⊢
    rw [show 31 - d - 1 = 30 - d by omega] at hfin ⊢
    -- no kids
    have hleaf : ∀ q : Bool, (∀ h : ts = [], ownOk k n s ts.length = q) → (ts ≠ [] → ownOk k n s ts.length = false) → (q && decide ((ts.length : Int) = 0)) = (decide (c + ((1 + sumL Tm.nodes ts : Nat) : Int) ≤ 120) && (ownOk k n s ts.length && ts.all fun t => t.shape (30 - d))) := by
      intro q hq1 hq2
      by_cases ht : ts = []
      · rw [hq1 ht]; subst ht
        have e : c + ((1 + sumL Tm.nodes [] : Nat) : Int) ≤ 120 := by simp only [sumL]; omega
        rw [decide_eq_true e]
        simp
      · rw [hq2 ht]
        have : ¬ (ts.length : Int) = 0 := by intro h; exact ht (List.eq_nil_of_length_eq_zero (by omega))
        rw [decide_eq_false this]
        simp
    simp -implicitDefEqProofs only [evb0, evb1, evb2, evb3, evb4, evb5, evb6, evb7, evb8, evb9, ↓evZ2, ↓evZ3, ↓Int.cast_ofNat_Int, implies_true, ne_eq, or_false, false_or, or_self, gt_iff_lt, isMut, aFn, List.contains, List.elem, aBox, aField, aLoad, sub, aNil, aPick, aExt, aFld, gd, noJunk, plainOp, aBuildSlice, aBuild, aFill, aParts, seqParts, fitAll, List.range', ↓reduceIte, reduceCtorEq, Nat.reduceEqDiff, Nat.reduceAdd, Nat.reduceLeDiff, Nat.reduceMul, Nat.reduceLT, Nat.reduceBEq, Int.reduceEq, tf_Gs7_77]
    refine cond_split (fun hk1 => ?_) (fun hk1 => ?_)
    · simp only [decide_eq_true_eq] at hk1
      subst hk1
      simp -implicitDefEqProofs only [evb0, evb1, evb2, evb3, evb4, evb5, evb6, evb7, evb8, evb9, ↓evZ2, ↓evZ3, ↓Int.cast_ofNat_Int, implies_true, ne_eq, or_false, false_or, or_self, gt_iff_lt, isMut, aFn, List.contains, List.elem, aBox, aField, aLoad, sub, aNil, aPick, aExt, aFld, gd, noJunk, plainOp, aBuildSlice, aBuild, aFill, aParts, seqParts, fitAll, List.range', ↓reduceIte, reduceCtorEq, Nat.reduceEqDiff, Nat.reduceAdd, Nat.reduceLeDiff, Nat.reduceMul, Nat.reduceLT, Nat.reduceBEq, Int.reduceEq, tf_Gs7_77]
      refine (c_within _ _ _ _).to ?_
      repeat' (first
        | (simp -implicitDefEqProofs only [*, evb0, evb1, evb2, evb3, evb4, evb5, evb6, evb7, evb8, evb9, ↓evZ2, ↓evZ3, ↓Int.cast_ofNat_Int, implies_true, ne_eq, or_false, false_or, or_self, gt_iff_lt, isMut, aFn, List.contains, List.elem, aBox, aField, aLoad, sub, aNil, aPick, aExt, aFld, gd, noJunk, plainOp, aBuildSlice, aBuild, aFill, aParts, seqParts, fitAll, List.range', ↓reduceIte, reduceCtorEq, Nat.reduceEqDiff, Nat.reduceAdd, Nat.reduceLeDiff, Nat.reduceMul, Nat.reduceLT, Nat.reduceBEq, Int.reduceEq, tf_Gs7_77])
        | (refine opsG_split (fun h => ?_) (fun h => ?_))
        
        | (refine cond_split (fun h => ?_) (fun h => ?_)))
      all_goals first
        | (refine hfin false ?_ (by intro h; cases h); rw [show ownOk 1 n s ts.length = false by first | (simp only [ownOk, *, show decide ((2 : Int) = 1) = false from rfl, show decide ((2 : Int) = 2) = true from rfl, show decide ((1 : Int) = 1) = true from rfl, cond_true, cond_false, Bool.not_true, Bool.not_false, Bool.false_and, Bool.and_false, Bool.true_and]; done) | (simp_all [ownOk]; done) | (simp_all [ownOk]; intro a e; have := h a; omega)]; simp; done)
        | (refine hfin _ ?_ (fun h => List.eq_nil_of_length_eq_zero (by simpa using h)); rw [← hleaf true (fun h => by simp_all [ownOk]) (fun h => by simp [ownOk, h])]; simp; done)
    simp only [decide_eq_false_iff_not] at hk1
    simp -implicitDefEqProofs only [evb0, evb1, evb2, evb3, evb4, evb5, evb6, evb7, evb8, evb9, ↓evZ2, ↓evZ3, ↓Int.cast_ofNat_Int, implies_true, ne_eq, or_false, false_or, or_self, gt_iff_lt, isMut, aFn, List.contains, List.elem, aBox, aField, aLoad, sub, aNil, aPick, aExt, aFld, gd, noJunk, plainOp, aBuildSlice, aBuild, aFill, aParts, seqParts, fitAll, List.range', ↓reduceIte, reduceCtorEq, Nat.reduceEqDiff, Nat.reduceAdd, Nat.reduceLeDiff, Nat.reduceMul, Nat.reduceLT, Nat.reduceBEq, Int.reduceEq, tf_Gs7_77]
    refine cond_split (fun hk2 => ?_) (fun hk2 => ?_)
    · simp only [decide_eq_true_eq] at hk2
      subst hk2
      simp -implicitDefEqProofs only [evb0, evb1, evb2, evb3, evb4, evb5, evb6, evb7, evb8, evb9, ↓evZ2, ↓evZ3, ↓Int.cast_ofNat_Int, implies_true, ne_eq, or_false, false_or, or_self, gt_iff_lt, isMut, aFn, List.contains, List.elem, aBox, aField, aLoad, sub, aNil, aPick, aExt, aFld, gd, noJunk, plainOp, aBuildSlice, aBuild, aFill, aParts, seqParts, fitAll, List.range', ↓reduceIte, reduceCtorEq, Nat.reduceEqDiff, Nat.reduceAdd, Nat.reduceLeDiff, Nat.reduceMul, Nat.reduceLT, Nat.reduceBEq, Int.reduceEq, tf_Gs7_77]
      refine (c_within _ _ _ _).to ?_
      repeat' (first
        | (simp -implicitDefEqProofs only [*, evb0, evb1, evb2, evb3, evb4, evb5, evb6, evb7, evb8, evb9, ↓evZ2, ↓evZ3, ↓Int.cast_ofNat_Int, implies_true, ne_eq, or_false, false_or, or_self, gt_iff_lt, isMut, aFn, List.contains, List.elem, aBox, aField, aLoad, sub, aNil, aPick, aExt, aFld, gd, noJunk, plainOp, aBuildSlice, aBuild, aFill, aParts, seqParts, fitAll, List.range', ↓reduceIte, reduceCtorEq, Nat.reduceEqDiff, Nat.reduceAdd, Nat.reduceLeDiff, Nat.reduceMul, Nat.reduceLT, Nat.reduceBEq, Int.reduceEq, tf_Gs7_77])
        | (refine opsG_split (fun h => ?_) (fun h => ?_))
        
        | (refine cond_split (fun h => ?_) (fun h => ?_)))
      all_goals first
        | (refine hfin false ?_ (by intro h; cases h); rw [show ownOk 2 n s ts.length = false by first | (simp only [ownOk, *, show decide ((2 : Int) = 1) = false from rfl, show decide ((2 : Int) = 2) = true from rfl, show decide ((1 : Int) = 1) = true from rfl, cond_true, cond_false, Bool.not_true, Bool.not_false, Bool.false_and, Bool.and_false, Bool.true_and]; done) | (simp_all [ownOk]; done) | (simp_all [ownOk]; intro a e; have := h a; omega)]; simp; done)
        | (refine hfin _ ?_ (fun h => List.eq_nil_of_length_eq_zero (by simpa using h)); rw [← hleaf true (fun h => by simp_all [ownOk]) (fun h => by simp [ownOk, h])]; simp; done)
    simp only [decide_eq_false_iff_not] at hk2
    simp -implicitDefEqProofs only [evb0, evb1, evb2, evb3, evb4, evb5, evb6, evb7, evb8, evb9, ↓evZ2, ↓evZ3, ↓Int.cast_ofNat_Int, implies_true, ne_eq, or_false, false_or, or_self, gt_iff_lt, isMut, aFn, List.contains, List.elem, aBox, aField, aLoad, sub, aNil, aPick, aExt, aFld, gd, noJunk, plainOp, aBuildSlice, aBuild, aFill, aParts, seqParts, fitAll, List.range', ↓reduceIte, reduceCtorEq, Nat.reduceEqDiff, Nat.reduceAdd, Nat.reduceLeDiff, Nat.reduceMul, Nat.reduceLT, Nat.reduceBEq, Int.reduceEq, tf_Gs7_77]
    refine cond_split (fun hk3 => ?_) (fun hk3 => ?_)
    case refine_2 =>
      simp only [decide_eq_false_iff_not] at hk3
      simp -implicitDefEqProofs only [evb0, evb1, evb2, evb3, evb4, evb5, evb6, evb7, evb8, evb9, ↓evZ2, ↓evZ3, ↓Int.cast_ofNat_Int, implies_true, ne_eq, or_false, false_or, or_self, gt_iff_lt, isMut, aFn, List.contains, List.elem, aBox, aField, aLoad, sub, aNil, aPick, aExt, aFld, gd, noJunk, plainOp, aBuildSlice, aBuild, aFill, aParts, seqParts, fitAll, List.range', ↓reduceIte, reduceCtorEq, Nat.reduceEqDiff, Nat.reduceAdd, Nat.reduceLeDiff, Nat.reduceMul, Nat.reduceLT, Nat.reduceBEq, Int.reduceEq, tf_Gs7_77]
      refine hfin false ?_ (by intro h; cases h)
      rw [show ownOk k n s ts.length = false by simp [ownOk, hk1, hk2, hk3]]
      simp
    simp only [decide_eq_true_eq] at hk3
    subst hk3
    have hk' := fun st hb => hk st hb (by omega) (by omega)
    clear hk
    repeat' (first
      | (simp -implicitDefEqProofs only [*, evb0, evb1, evb2, evb3, evb4, evb5, evb6, evb7, evb8, evb9, ↓evZ2, ↓evZ3, ↓Int.cast_ofNat_Int, implies_true, ne_eq, or_false, false_or, or_self, gt_iff_lt, isMut, aFn, List.contains, List.elem, aBox, aField, aLoad, sub, aNil, aPick, aExt, aFld, gd, noJunk, plainOp, aBuildSlice, aBuild, aFill, aParts, seqParts, fitAll, List.range', ↓reduceIte, reduceCtorEq, Nat.reduceEqDiff, Nat.reduceAdd, Nat.reduceLeDiff, Nat.reduceMul, Nat.reduceLT, Nat.reduceBEq, Int.reduceEq, tf_Gs7_77])
      | (refine opsG_split (fun h => ?_) (fun h => ?_))
      | (refine (c_impl_NameValid s _).to ?_)
      | (refine cond_split (fun h => ?_) (fun h => ?_)))
    all_goals first
      | (refine hfin false ?_ (by intro h; cases h); rw [show ownOk 3 n s ts.length = false by (simp_all [ownOk]; done)]; simp; done)
      | skip
    refine (hk' _ (Store.upd_same _ _ _)).mono ?_
    rintro _ _ ⟨c', rfl, rfl, hc'⟩
    simp -implicitDefEqProofs only [Store.upd_upd, evb0, evb1, evb2, evb3, evb4, evb5, evb6, evb7, evb8, evb9, ↓evZ2, ↓evZ3, ↓Int.cast_ofNat_Int, implies_true, ne_eq, or_false, false_or, or_self, gt_iff_lt, isMut, aFn, List.contains, List.elem, aBox, aField, aLoad, sub, aNil, aPick, aExt, aFld, gd, noJunk, plainOp, aBuildSlice, aBuild, aFill, aParts, seqParts, fitAll, List.range', ↓reduceIte, reduceCtorEq, Nat.reduceEqDiff, Nat.reduceAdd, Nat.reduceLeDiff, Nat.reduceMul, Nat.reduceLT, Nat.reduceBEq, Int.reduceEq, tf_Gs7_77]
    have ho : ownOk 3 n s ts.length = true := by simp_all [ownOk]
    rw [ho, show c + ((1 + sumL Tm.nodes ts : Nat) : Int) = c + 1 + (sumL Tm.nodes ts : Int) by omega]
    simp only [Bool.true_and, Bool.not_not]
    first | exact ⟨c', trivial, rfl, hc'⟩ | exact ⟨c', rfl, rfl, hc'⟩
termination_by t => SizeOf.sizeOf t
decreasing_by have := List.sizeOf_lt_of_mem hx; simp only [Tm.mk.sizeOf_spec]; omega
end Go.AW


/- Valid terms and goals: what the program's functions return. -/
namespace Go.AW
open Go.Proofs.Try
set_option linter.unusedSimpArgs false
set_option maxRecDepth 100000

theorem tf_Gs8_27 : (type_of% tI_2) ∧ (type_of% zI_2) ∧ (type_of% Go.Proofs.Try.underlying2) ∧ (type_of% tI_3) ∧ (type_of% zI_3) ∧ (type_of% Go.Proofs.Try.underlying3) ∧ (type_of% tI_4) ∧ (type_of% zI_4) ∧ (type_of% Go.Proofs.Try.underlying4) ∧ (type_of% tI_5) ∧ (type_of% zI_5) ∧ (type_of% Go.Proofs.Try.underlying5) ∧ (type_of% tI_6) ∧ (type_of% zI_6) ∧ (type_of% Go.Proofs.Try.underlying6) ∧ (type_of% tI_41) ∧ (type_of% zI_41) ∧ (type_of% fI_41_0) ∧ (type_of% fI_41_1) ∧ (type_of% fI_41_2) ∧ (type_of% fI_41_3) ∧ (type_of% bI_41) ∧ (type_of% tI_64) ∧ (type_of% zI_64) ∧ (type_of% fI_64_0) ∧ (type_of% fI_64_1) ∧ (type_of% bI_64) ∧ (type_of% tI_75) ∧ (type_of% zI_75) ∧ (type_of% fI_75_0) ∧ (type_of% fI_75_1) ∧ (type_of% fI_75_2) ∧ (type_of% fI_75_3) ∧ (type_of% fI_75_4) ∧ (type_of% fI_75_5) ∧ (type_of% bI_75) ∧ (type_of% tI_111) ∧ (type_of% zI_111) := ⟨tI_2, zI_2, Go.Proofs.Try.underlying2, tI_3, zI_3, Go.Proofs.Try.underlying3, tI_4, zI_4, Go.Proofs.Try.underlying4, tI_5, zI_5, Go.Proofs.Try.underlying5, tI_6, zI_6, Go.Proofs.Try.underlying6, tI_41, zI_41, fI_41_0, fI_41_1, fI_41_2, fI_41_3, bI_41, tI_64, zI_64, fI_64_0, fI_64_1, bI_64, tI_75, zI_75, fI_75_0, fI_75_1, fI_75_2, fI_75_3, fI_75_4, fI_75_5, bI_75, tI_111, zI_111⟩
theorem c_impl_TermValid (t : Tm) (st : Store) : ACalls prog 27 [t.av] st (fun r st' => r = .bool t.valid ∧ st' = st) := by
  have hd : ACalls prog 27 [t.av] st (fun r st' => Drops st' st ∧ r = .bool t.valid) := by
    refine acalls_fit [] func27 ntmps27 rfl rfl (by kernel_rfl) (by decide +kernel) (by show 1 ≤ _; decide +kernel) ?_
    intro _
    simp -implicitDefEqProofs only [Tm.av_junk, Tm.av_agg, Tm.av_width, evb0, evb1, evb2, evb3, evb4, evb5, evb6, evb7, evb8, evb9, ↓evZ2, ↓evZ3, ↓Int.cast_ofNat_Int, implies_true, ne_eq, or_false, false_or, or_self, gt_iff_lt, isMut, aFn, List.contains, List.elem, aBox, aField, aLoad, sub, aNil, aPick, aExt, aFld, gd, noJunk, plainOp, aBuildSlice, aBuild, aFill, aParts, seqParts, fitAll, List.range', ↓reduceIte, reduceCtorEq, Nat.reduceEqDiff, Nat.reduceAdd, Nat.reduceLeDiff, Nat.reduceMul, Nat.reduceLT, Nat.reduceBEq, Int.reduceEq, tf_Gs8_27]
    intro b hb
    simp -implicitDefEqProofs only [setCells, Store.upd_upd, Tm.av_junk, Tm.av_agg, Tm.av_width, evb0, evb1, evb2, evb3, evb4, evb5, evb6, evb7, evb8, evb9, ↓evZ2, ↓evZ3, ↓Int.cast_ofNat_Int, implies_true, ne_eq, or_false, false_or, or_self, gt_iff_lt, isMut, aFn, List.contains, List.elem, aBox, aField, aLoad, sub, aNil, aPick, aExt, aFld, gd, noJunk, plainOp, aBuildSlice, aBuild, aFill, aParts, seqParts, fitAll, List.range', ↓reduceIte, reduceCtorEq, Nat.reduceEqDiff, Nat.reduceAdd, Nat.reduceLeDiff, Nat.reduceMul, Nat.reduceLT, Nat.reduceBEq, Int.reduceEq, tf_Gs8_27]
    refine (c_scan t 1 0 b _ (Store.upd_same _ _ _) (by omega) (by omega) (by omega) (by omega)).mono ?_
    rintro _ _ ⟨c', rfl, rfl, _⟩
    simp -implicitDefEqProofs only [Store.upd_upd, evb0, evb1, evb2, evb3, evb4, evb5, evb6, evb7, evb8, evb9, ↓evZ2, ↓evZ3, ↓Int.cast_ofNat_Int, implies_true, ne_eq, or_false, false_or, or_self, gt_iff_lt, isMut, aFn, List.contains, List.elem, aBox, aField, aLoad, sub, aNil, aPick, aExt, aFld, gd, noJunk, plainOp, aBuildSlice, aBuild, aFill, aParts, seqParts, fitAll, List.range', ↓reduceIte, reduceCtorEq, Nat.reduceEqDiff, Nat.reduceAdd, Nat.reduceLeDiff, Nat.reduceMul, Nat.reduceLT, Nat.reduceBEq, Int.reduceEq, tf_Gs8_27]
    refine ⟨(Drops.refl st).upd hb, ?_⟩
    simp only [Tm.valid, AV.bool.injEq]
    rw [Bool.and_comm, show (31 : Int) - 1 = 30 from rfl]
    congr 1
    simp only [decide_eq_decide]
    omega
  exact hd.drop

def Tm.goal : Tm → Bool
  | .mk k n s ts => (Tm.mk k n s ts).valid && goalOk k s ts.length

end Go.AW


/- Lists of terms, looked through: what the program's functions return. -/
namespace Go.AW
open Go.Proofs.Try
set_option linter.unusedSimpArgs false
set_option maxRecDepth 100000

theorem any_not_all {α : Type} (p : α → Bool) : ∀ l : List α, (!(l.any fun x => !p x)) = l.all p
  | [] => rfl
  | x :: l => by rw [List.any_cons, List.all_cons, ← any_not_all p l]; cases p x <;> simp

def queryOk (l : List Tm) : Bool := decide (l.length ≤ 6) && l.all Tm.goal

end Go.AW


/- Replaced variables: what the program's and the reference's functions return. -/
namespace Go.AW
open Go.Proofs.Try
set_option linter.unusedSimpArgs false
set_option maxRecDepth 100000

theorem tf_V6_81 : (type_of% tI_2) ∧ (type_of% zI_2) ∧ (type_of% Go.Proofs.Try.underlying2) ∧ (type_of% tI_3) ∧ (type_of% zI_3) ∧ (type_of% Go.Proofs.Try.underlying3) ∧ (type_of% tI_4) ∧ (type_of% zI_4) ∧ (type_of% Go.Proofs.Try.underlying4) ∧ (type_of% tI_5) ∧ (type_of% zI_5) ∧ (type_of% Go.Proofs.Try.underlying5) ∧ (type_of% tI_6) ∧ (type_of% zI_6) ∧ (type_of% Go.Proofs.Try.underlying6) ∧ (type_of% tI_7) ∧ (type_of% zI_7) ∧ (type_of% fI_7_0) ∧ (type_of% fI_7_1) ∧ (type_of% fI_7_2) ∧ (type_of% fI_7_3) ∧ (type_of% bI_7) ∧ (type_of% tI_8) ∧ (type_of% zI_8) ∧ (type_of% fI_8_0) ∧ (type_of% fI_8_1) ∧ (type_of% fI_8_2) ∧ (type_of% fI_8_3) ∧ (type_of% bI_8) ∧ (type_of% tI_11) ∧ (type_of% zI_11) ∧ (type_of% Go.Proofs.Try.underlying11) ∧ (type_of% tI_15) ∧ (type_of% zI_15) ∧ (type_of% tI_16) ∧ (type_of% zI_16) ∧ (type_of% tI_18) ∧ (type_of% zI_18) ∧ (type_of% fI_18_0) ∧ (type_of% bI_18) ∧ (type_of% tI_19) ∧ (type_of% zI_19) ∧ (type_of% fI_19_0) ∧ (type_of% bI_19) ∧ (type_of% tI_44) ∧ (type_of% zI_44) ∧ (type_of% eI_44) ∧ (type_of% eB_44) ∧ (type_of% eZ_44) ∧ (type_of% Go.Proofs.Try.underlying44) ∧ (type_of% tI_54) ∧ (type_of% zI_54) ∧ (type_of% fI_54_0) ∧ (type_of% fI_54_1) ∧ (type_of% bI_54) ∧ (type_of% tI_64) ∧ (type_of% zI_64) ∧ (type_of% fI_64_0) ∧ (type_of% fI_64_1) ∧ (type_of% bI_64) := ⟨tI_2, zI_2, Go.Proofs.Try.underlying2, tI_3, zI_3, Go.Proofs.Try.underlying3, tI_4, zI_4, Go.Proofs.Try.underlying4, tI_5, zI_5, Go.Proofs.Try.underlying5, tI_6, zI_6, Go.Proofs.Try.underlying6, tI_7, zI_7, fI_7_0, fI_7_1, fI_7_2, fI_7_3, bI_7, tI_8, zI_8, fI_8_0, fI_8_1, fI_8_2, fI_8_3, bI_8, tI_11, zI_11, Go.Proofs.Try.underlying11, tI_15, zI_15, tI_16, zI_16, tI_18, zI_18, fI_18_0, bI_18, tI_19, zI_19, fI_19_0, bI_19, tI_44, zI_44, eI_44, eB_44, eZ_44, Go.Proofs.Try.underlying44, tI_54, zI_54, fI_54_0, fI_54_1, bI_54, tI_64, zI_64, fI_64_0, fI_64_1, bI_64⟩
theorem c_IndexFuncBd (l : List Bd) (g : FuncId) (caps : List AV) (p : Bd → Bool) (st : Store) (hc : ∀ x ∈ l, ACalls prog g ([bdAv x] ++ caps) st (fun r st' => r = .bool (p x) ∧ st' = st)) :
    ACalls prog 81 [.slice (l.map bdAv), .func g caps] st (fun r st' => r = .int .i64 (idxP p l 0) ∧ st' = st) := by
  refine acalls_fit [1000000] func81 ntmps81 rfl rfl (by kernel_rfl) (by decide +kernel) (by show 2 ≤ _; decide +kernel) ?_
  simp only [fitsL, AV.fits, and_true, List.length_map]
  intro ⟨hl, _⟩
  simp -implicitDefEqProofs only [List.length_map, evb0, evb1, evb2, evb3, evb4, evb5, evb6, evb7, evb8, evb9, ↓evZ2, ↓evZ3, ↓Int.cast_ofNat_Int, implies_true, ne_eq, or_false, false_or, or_self, gt_iff_lt, isMut, aFn, List.contains, List.elem, aBox, aField, aLoad, sub, aNil, aPick, aExt, aFld, gd, noJunk, plainOp, aBuildSlice, aBuild, aFill, aParts, seqParts, fitAll, List.range', ↓reduceIte, reduceCtorEq, Nat.reduceEqDiff, Nat.reduceAdd, Nat.reduceLeDiff, Nat.reduceMul, Nat.reduceLT, Nat.reduceBEq, Int.reduceEq, tf_V6_81]
  refine arun_each (σ := Unit) [1000000] [0, 1, 7] l (fun i _ => idxP p (l.drop i) i = idxP p l 0) (fun i _ => [(8, .int .i64 i)]) (fun _ _ => st) (by decide +kernel) ⟨(), rfl, LessL.mk (by simp -implicitDefEqProofs only [evb0, evb1, evb2, evb3, evb4, evb5, evb6, evb7, evb8, evb9, ↓evZ2, ↓evZ3, ↓Int.cast_ofNat_Int, implies_true, ne_eq, or_false, false_or, or_self, gt_iff_lt, isMut, aFn, List.contains, List.elem, aBox, aField, aLoad, sub, aNil, aPick, aExt, aFld, gd, noJunk, plainOp, aBuildSlice, aBuild, aFill, aParts, seqParts, fitAll, List.range', ↓reduceIte, reduceCtorEq, Nat.reduceEqDiff, Nat.reduceAdd, Nat.reduceLeDiff, Nat.reduceMul, Nat.reduceLT, Nat.reduceBEq, Int.reduceEq, tf_V6_81])⟩ (fun i x _ hx hlt hlt' hdr hinv => ?_) (fun _ hge hinv => ?_)
  case refine_2 =>
    simp -implicitDefEqProofs only [List.length_map, hge, evb0, evb1, evb2, evb3, evb4, evb5, evb6, evb7, evb8, evb9, ↓evZ2, ↓evZ3, ↓Int.cast_ofNat_Int, implies_true, ne_eq, or_false, false_or, or_self, gt_iff_lt, isMut, aFn, List.contains, List.elem, aBox, aField, aLoad, sub, aNil, aPick, aExt, aFld, gd, noJunk, plainOp, aBuildSlice, aBuild, aFill, aParts, seqParts, fitAll, List.range', ↓reduceIte, reduceCtorEq, Nat.reduceEqDiff, Nat.reduceAdd, Nat.reduceLeDiff, Nat.reduceMul, Nat.reduceLT, Nat.reduceBEq, Int.reduceEq, tf_V6_81]
    rw [← hinv, List.drop_length]
    rfl
  rw [hdr, idxP] at hinv
  have hw := wrap64 (n := (i : Int) + 1) (by omega) (by omega)
  simp -implicitDefEqProofs only [List.length_map, hlt', ev_at (av := bdAv) eI_44 hx (bdAv_width x), bdAv_agg, bdAv_width, evb0, evb1, evb2, evb3, evb4, evb5, evb6, evb7, evb8, evb9, ↓evZ2, ↓evZ3, ↓Int.cast_ofNat_Int, implies_true, ne_eq, or_false, false_or, or_self, gt_iff_lt, isMut, aFn, List.contains, List.elem, aBox, aField, aLoad, sub, aNil, aPick, aExt, aFld, gd, noJunk, plainOp, aBuildSlice, aBuild, aFill, aParts, seqParts, fitAll, List.range', ↓reduceIte, reduceCtorEq, Nat.reduceEqDiff, Nat.reduceAdd, Nat.reduceLeDiff, Nat.reduceMul, Nat.reduceLT, Nat.reduceBEq, Int.reduceEq, tf_V6_81]
  refine (hc x (List.mem_of_getElem? hx)).to ?_
  simp -implicitDefEqProofs only [evb0, evb1, evb2, evb3, evb4, evb5, evb6, evb7, evb8, evb9, ↓evZ2, ↓evZ3, ↓Int.cast_ofNat_Int, implies_true, ne_eq, or_false, false_or, or_self, gt_iff_lt, isMut, aFn, List.contains, List.elem, aBox, aField, aLoad, sub, aNil, aPick, aExt, aFld, gd, noJunk, plainOp, aBuildSlice, aBuild, aFill, aParts, seqParts, fitAll, List.range', ↓reduceIte, reduceCtorEq, Nat.reduceEqDiff, Nat.reduceAdd, Nat.reduceLeDiff, Nat.reduceMul, Nat.reduceLT, Nat.reduceBEq, Int.reduceEq, tf_V6_81]
  refine cond_split (fun h => ?_) (fun h => ?_)
  · rw [if_pos h] at hinv
    simp -implicitDefEqProofs only [hinv, evb0, evb1, evb2, evb3, evb4, evb5, evb6, evb7, evb8, evb9, ↓evZ2, ↓evZ3, ↓Int.cast_ofNat_Int, implies_true, ne_eq, or_false, false_or, or_self, gt_iff_lt, isMut, aFn, List.contains, List.elem, aBox, aField, aLoad, sub, aNil, aPick, aExt, aFld, gd, noJunk, plainOp, aBuildSlice, aBuild, aFill, aParts, seqParts, fitAll, List.range', ↓reduceIte, reduceCtorEq, Nat.reduceEqDiff, Nat.reduceAdd, Nat.reduceLeDiff, Nat.reduceMul, Nat.reduceLT, Nat.reduceBEq, Int.reduceEq, tf_V6_81]
  · rw [if_neg (by simp [h])] at hinv
    simp -implicitDefEqProofs only [evb0, evb1, evb2, evb3, evb4, evb5, evb6, evb7, evb8, evb9, ↓evZ2, ↓evZ3, ↓Int.cast_ofNat_Int, implies_true, ne_eq, or_false, false_or, or_self, gt_iff_lt, isMut, aFn, List.contains, List.elem, aBox, aField, aLoad, sub, aNil, aPick, aExt, aFld, gd, noJunk, plainOp, aBuildSlice, aBuild, aFill, aParts, seqParts, fitAll, List.range', ↓reduceIte, reduceCtorEq, Nat.reduceEqDiff, Nat.reduceAdd, Nat.reduceLeDiff, Nat.reduceMul, Nat.reduceLT, Nat.reduceBEq, Int.reduceEq, tf_V6_81]
    exact ⟨(), by rw [← hinv], LessL.mk (by simp -implicitDefEqProofs only [hw, evb0, evb1, evb2, evb3, evb4, evb5, evb6, evb7, evb8, evb9, ↓evZ2, ↓evZ3, ↓Int.cast_ofNat_Int, implies_true, ne_eq, or_false, false_or, or_self, gt_iff_lt, isMut, aFn, List.contains, List.elem, aBox, aField, aLoad, sub, aNil, aPick, aExt, aFld, gd, noJunk, plainOp, aBuildSlice, aBuild, aFill, aParts, seqParts, fitAll, List.range', ↓reduceIte, reduceCtorEq, Nat.reduceEqDiff, Nat.reduceAdd, Nat.reduceLeDiff, Nat.reduceMul, Nat.reduceLT, Nat.reduceBEq, Int.reduceEq, tf_V6_81])⟩

theorem tf_V6_78 : (type_of% tI_3) ∧ (type_of% zI_3) ∧ (type_of% Go.Proofs.Try.underlying3) ∧ (type_of% tI_4) ∧ (type_of% zI_4) ∧ (type_of% Go.Proofs.Try.underlying4) ∧ (type_of% tI_5) ∧ (type_of% zI_5) ∧ (type_of% Go.Proofs.Try.underlying5) ∧ (type_of% tI_6) ∧ (type_of% zI_6) ∧ (type_of% Go.Proofs.Try.underlying6) ∧ (type_of% tI_7) ∧ (type_of% zI_7) ∧ (type_of% fI_7_0) ∧ (type_of% fI_7_1) ∧ (type_of% fI_7_2) ∧ (type_of% fI_7_3) ∧ (type_of% bI_7) ∧ (type_of% tI_9) ∧ (type_of% zI_9) ∧ (type_of% Go.Proofs.Try.underlying9) ∧ (type_of% tI_44) ∧ (type_of% zI_44) ∧ (type_of% eI_44) ∧ (type_of% eB_44) ∧ (type_of% eZ_44) ∧ (type_of% Go.Proofs.Try.underlying44) ∧ (type_of% tI_64) ∧ (type_of% zI_64) ∧ (type_of% fI_64_0) ∧ (type_of% fI_64_1) ∧ (type_of% bI_64) ∧ (type_of% tI_125) ∧ (type_of% zI_125) ∧ (type_of% fI_125_0) ∧ (type_of% fI_125_1) ∧ (type_of% bI_125) := ⟨tI_3, zI_3, Go.Proofs.Try.underlying3, tI_4, zI_4, Go.Proofs.Try.underlying4, tI_5, zI_5, Go.Proofs.Try.underlying5, tI_6, zI_6, Go.Proofs.Try.underlying6, tI_7, zI_7, fI_7_0, fI_7_1, fI_7_2, fI_7_3, bI_7, tI_9, zI_9, Go.Proofs.Try.underlying9, tI_44, zI_44, eI_44, eB_44, eZ_44, Go.Proofs.Try.underlying44, tI_64, zI_64, fI_64_0, fI_64_1, bI_64, tI_125, zI_125, fI_125_0, fI_125_1, bI_125⟩
theorem c_ContainsFuncBd (l : List Bd) (g : FuncId) (caps : List AV) (p : Bd → Bool) (st : Store) (hc : ∀ x ∈ l, ACalls prog g ([bdAv x] ++ caps) st (fun r st' => r = .bool (p x) ∧ st' = st)) :
    ACalls prog 78 [.slice (l.map bdAv), .func g caps] st (fun r st' => r = .bool (l.any p) ∧ st' = st) := by
  refine acalls_fit [1000000] func78 ntmps78 rfl rfl (by kernel_rfl) (by decide +kernel) (by show 2 ≤ _; decide +kernel) ?_
  intro _
  simp -implicitDefEqProofs only [evb0, evb1, evb2, evb3, evb4, evb5, evb6, evb7, evb8, evb9, ↓evZ2, ↓evZ3, ↓Int.cast_ofNat_Int, implies_true, ne_eq, or_false, false_or, or_self, gt_iff_lt, isMut, aFn, List.contains, List.elem, aBox, aField, aLoad, sub, aNil, aPick, aExt, aFld, gd, noJunk, plainOp, aBuildSlice, aBuild, aFill, aParts, seqParts, fitAll, List.range', ↓reduceIte, reduceCtorEq, Nat.reduceEqDiff, Nat.reduceAdd, Nat.reduceLeDiff, Nat.reduceMul, Nat.reduceLT, Nat.reduceBEq, Int.reduceEq, tf_V6_78]
  refine (c_IndexFuncBd l g caps p st hc).to ?_
  simp -implicitDefEqProofs only [idxP_any, evb0, evb1, evb2, evb3, evb4, evb5, evb6, evb7, evb8, evb9, ↓evZ2, ↓evZ3, ↓Int.cast_ofNat_Int, implies_true, ne_eq, or_false, false_or, or_self, gt_iff_lt, isMut, aFn, List.contains, List.elem, aBox, aField, aLoad, sub, aNil, aPick, aExt, aFld, gd, noJunk, plainOp, aBuildSlice, aBuild, aFill, aParts, seqParts, fitAll, List.range', ↓reduceIte, reduceCtorEq, Nat.reduceEqDiff, Nat.reduceAdd, Nat.reduceLeDiff, Nat.reduceMul, Nat.reduceLT, Nat.reduceBEq, Int.reduceEq, tf_V6_78]


theorem tf_V6_83 : (type_of% tI_2) ∧ (type_of% zI_2) ∧ (type_of% Go.Proofs.Try.underlying2) ∧ (type_of% tI_3) ∧ (type_of% zI_3) ∧ (type_of% Go.Proofs.Try.underlying3) ∧ (type_of% tI_5) ∧ (type_of% zI_5) ∧ (type_of% Go.Proofs.Try.underlying5) ∧ (type_of% tI_41) ∧ (type_of% zI_41) ∧ (type_of% fI_41_0) ∧ (type_of% fI_41_1) ∧ (type_of% fI_41_2) ∧ (type_of% fI_41_3) ∧ (type_of% bI_41) ∧ (type_of% tI_64) ∧ (type_of% zI_64) ∧ (type_of% fI_64_0) ∧ (type_of% fI_64_1) ∧ (type_of% bI_64) := ⟨tI_2, zI_2, Go.Proofs.Try.underlying2, tI_3, zI_3, Go.Proofs.Try.underlying3, tI_5, zI_5, Go.Proofs.Try.underlying5, tI_41, zI_41, fI_41_0, fI_41_1, fI_41_2, fI_41_3, bI_41, tI_64, zI_64, fI_64_0, fI_64_1, bI_64⟩
theorem c_variable (n : Int) (st : Store) : ACalls prog 83 [.int .i64 n] st (fun r st' => r = (vr n).av ∧ st' = st) := by
  refine ACalls.done ?_
  refine acalls_fit [1000000] func83 ntmps83 rfl rfl (by kernel_rfl) (by decide +kernel) (by show 1 ≤ _; decide +kernel) ?_
  intro _
  simp -implicitDefEqProofs only [evb0, evb1, evb2, evb3, evb4, evb5, evb6, evb7, evb8, evb9, ↓evZ2, ↓evZ3, ↓Int.cast_ofNat_Int, implies_true, ne_eq, or_false, false_or, or_self, gt_iff_lt, isMut, aFn, List.contains, List.elem, aBox, aField, aLoad, sub, aNil, aPick, aExt, aFld, gd, noJunk, plainOp, aBuildSlice, aBuild, aFill, aParts, seqParts, fitAll, List.range', ↓reduceIte, reduceCtorEq, Nat.reduceEqDiff, Nat.reduceAdd, Nat.reduceLeDiff, Nat.reduceMul, Nat.reduceLT, Nat.reduceBEq, Int.reduceEq, tf_V6_83]
  intro b hb
  simp -implicitDefEqProofs only [setCells, evb0, evb1, evb2, evb3, evb4, evb5, evb6, evb7, evb8, evb9, ↓evZ2, ↓evZ3, ↓Int.cast_ofNat_Int, implies_true, ne_eq, or_false, false_or, or_self, gt_iff_lt, isMut, aFn, List.contains, List.elem, aBox, aField, aLoad, sub, aNil, aPick, aExt, aFld, gd, noJunk, plainOp, aBuildSlice, aBuild, aFill, aParts, seqParts, fitAll, List.range', ↓reduceIte, reduceCtorEq, Nat.reduceEqDiff, Nat.reduceAdd, Nat.reduceLeDiff, Nat.reduceMul, Nat.reduceLT, Nat.reduceBEq, Int.reduceEq, tf_V6_83]
  exact ⟨by simp only [vr, Tm.av_mk, soft_agg, soft_tup, soft_int, soft_bool, soft_str, soft_slice, soft_fslice, soft_ptr, soft_pptr, soft_map, soft_mslice, Tm.soft, List.map_cons, List.map_nil, List.map_nil], (Drops.refl _).upd hb⟩

theorem tf_V6_82 : (type_of% tI_2) ∧ (type_of% zI_2) ∧ (type_of% Go.Proofs.Try.underlying2) ∧ (type_of% tI_3) ∧ (type_of% zI_3) ∧ (type_of% Go.Proofs.Try.underlying3) ∧ (type_of% tI_4) ∧ (type_of% zI_4) ∧ (type_of% Go.Proofs.Try.underlying4) ∧ (type_of% tI_8) ∧ (type_of% zI_8) ∧ (type_of% fI_8_0) ∧ (type_of% fI_8_1) ∧ (type_of% fI_8_2) ∧ (type_of% fI_8_3) ∧ (type_of% bI_8) ∧ (type_of% tI_54) ∧ (type_of% zI_54) ∧ (type_of% fI_54_0) ∧ (type_of% fI_54_1) ∧ (type_of% bI_54) := ⟨tI_2, zI_2, Go.Proofs.Try.underlying2, tI_3, zI_3, Go.Proofs.Try.underlying3, tI_4, zI_4, Go.Proofs.Try.underlying4, tI_8, zI_8, fI_8_0, fI_8_1, fI_8_2, fI_8_3, bI_8, tI_54, zI_54, fI_54_0, fI_54_1, bI_54⟩
theorem c_ApplyBinds_2_1 (b : Bd) (n : Int) (st : Store) : ACalls prog 82 [bdAv b, .pptr (.int .i64 n)] st (fun r st' => r = .bool (decide (b.1 = n)) ∧ st' = st) := by
  refine acalls_fit [1000000] func82 ntmps82 rfl rfl (by kernel_rfl) (by decide +kernel) (by show 2 ≤ _; decide +kernel) ?_
  intro _
  unfold bdAv
  simp -implicitDefEqProofs only [evb0, evb1, evb2, evb3, evb4, evb5, evb6, evb7, evb8, evb9, ↓evZ2, ↓evZ3, ↓Int.cast_ofNat_Int, implies_true, ne_eq, or_false, false_or, or_self, gt_iff_lt, isMut, aFn, List.contains, List.elem, aBox, aField, aLoad, sub, aNil, aPick, aExt, aFld, gd, noJunk, plainOp, aBuildSlice, aBuild, aFill, aParts, seqParts, fitAll, List.range', ↓reduceIte, reduceCtorEq, Nat.reduceEqDiff, Nat.reduceAdd, Nat.reduceLeDiff, Nat.reduceMul, Nat.reduceLT, Nat.reduceBEq, Int.reduceEq, tf_V6_82]

theorem tf_V6_80 : (type_of% tI_2) ∧ (type_of% zI_2) ∧ (type_of% Go.Proofs.Try.underlying2) ∧ (type_of% tI_3) ∧ (type_of% zI_3) ∧ (type_of% Go.Proofs.Try.underlying3) ∧ (type_of% tI_4) ∧ (type_of% zI_4) ∧ (type_of% Go.Proofs.Try.underlying4) ∧ (type_of% tI_5) ∧ (type_of% zI_5) ∧ (type_of% Go.Proofs.Try.underlying5) ∧ (type_of% tI_6) ∧ (type_of% zI_6) ∧ (type_of% Go.Proofs.Try.underlying6) ∧ (type_of% tI_7) ∧ (type_of% zI_7) ∧ (type_of% fI_7_0) ∧ (type_of% fI_7_1) ∧ (type_of% fI_7_2) ∧ (type_of% fI_7_3) ∧ (type_of% bI_7) ∧ (type_of% tI_10) ∧ (type_of% zI_10) ∧ (type_of% Go.Proofs.Try.underlying10) ∧ (type_of% tI_11) ∧ (type_of% zI_11) ∧ (type_of% Go.Proofs.Try.underlying11) ∧ (type_of% tI_17) ∧ (type_of% zI_17) ∧ (type_of% tI_41) ∧ (type_of% zI_41) ∧ (type_of% fI_41_0) ∧ (type_of% fI_41_1) ∧ (type_of% fI_41_2) ∧ (type_of% fI_41_3) ∧ (type_of% bI_41) ∧ (type_of% tI_44) ∧ (type_of% zI_44) ∧ (type_of% eI_44) ∧ (type_of% eB_44) ∧ (type_of% eZ_44) ∧ (type_of% Go.Proofs.Try.underlying44) ∧ (type_of% tI_54) ∧ (type_of% zI_54) ∧ (type_of% fI_54_0) ∧ (type_of% fI_54_1) ∧ (type_of% bI_54) ∧ (type_of% tI_64) ∧ (type_of% zI_64) ∧ (type_of% fI_64_0) ∧ (type_of% fI_64_1) ∧ (type_of% bI_64) := ⟨tI_2, zI_2, Go.Proofs.Try.underlying2, tI_3, zI_3, Go.Proofs.Try.underlying3, tI_4, zI_4, Go.Proofs.Try.underlying4, tI_5, zI_5, Go.Proofs.Try.underlying5, tI_6, zI_6, Go.Proofs.Try.underlying6, tI_7, zI_7, fI_7_0, fI_7_1, fI_7_2, fI_7_3, bI_7, tI_10, zI_10, Go.Proofs.Try.underlying10, tI_11, zI_11, Go.Proofs.Try.underlying11, tI_17, zI_17, tI_41, zI_41, fI_41_0, fI_41_1, fI_41_2, fI_41_3, bI_41, tI_44, zI_44, eI_44, eB_44, eZ_44, Go.Proofs.Try.underlying44, tI_54, zI_54, fI_54_0, fI_54_1, bI_54, tI_64, zI_64, fI_64_0, fI_64_1, bI_64⟩
theorem c_ApplyBinds_2 (bs : List Bd) (n : Int) (st : Store) : ACalls prog 80 [.int .i64 n, .pptr (.slice (bs.map bdAv))] st (fun r st' => r = (subB bs n).av ∧ st' = st) := by
  refine ACalls.done ?_
  refine acalls_fit [1000000] func80 ntmps80 rfl rfl (by kernel_rfl) (by decide +kernel) (by show 2 ≤ _; decide +kernel) ?_
  intro _
  simp -implicitDefEqProofs only [evb0, evb1, evb2, evb3, evb4, evb5, evb6, evb7, evb8, evb9, ↓evZ2, ↓evZ3, ↓Int.cast_ofNat_Int, implies_true, ne_eq, or_false, false_or, or_self, gt_iff_lt, isMut, aFn, List.contains, List.elem, aBox, aField, aLoad, sub, aNil, aPick, aExt, aFld, gd, noJunk, plainOp, aBuildSlice, aBuild, aFill, aParts, seqParts, fitAll, List.range', ↓reduceIte, reduceCtorEq, Nat.reduceEqDiff, Nat.reduceAdd, Nat.reduceLeDiff, Nat.reduceMul, Nat.reduceLT, Nat.reduceBEq, Int.reduceEq, tf_V6_80]
  intro b hb
  refine (c_IndexFuncBd bs _ _ (fun b => decide (b.1 = n)) _ fun x _ => c_ApplyBinds_2_1 x n _).to ?_
  rcases findB_idx bs n with ⟨h1, h2⟩ | ⟨j, x, h1, h2, h3⟩
  · rw [h1]
    simp -implicitDefEqProofs only [show decide ((-1 : Int) < 0) = true from rfl, evb0, evb1, evb2, evb3, evb4, evb5, evb6, evb7, evb8, evb9, ↓evZ2, ↓evZ3, ↓Int.cast_ofNat_Int, implies_true, ne_eq, or_false, false_or, or_self, gt_iff_lt, isMut, aFn, List.contains, List.elem, aBox, aField, aLoad, sub, aNil, aPick, aExt, aFld, gd, noJunk, plainOp, aBuildSlice, aBuild, aFill, aParts, seqParts, fitAll, List.range', ↓reduceIte, reduceCtorEq, Nat.reduceEqDiff, Nat.reduceAdd, Nat.reduceLeDiff, Nat.reduceMul, Nat.reduceLT, Nat.reduceBEq, Int.reduceEq, tf_V6_80]
    refine (c_variable n _).to ?_
    simp -implicitDefEqProofs only [evb0, evb1, evb2, evb3, evb4, evb5, evb6, evb7, evb8, evb9, ↓evZ2, ↓evZ3, ↓Int.cast_ofNat_Int, implies_true, ne_eq, or_false, false_or, or_self, gt_iff_lt, isMut, aFn, List.contains, List.elem, aBox, aField, aLoad, sub, aNil, aPick, aExt, aFld, gd, noJunk, plainOp, aBuildSlice, aBuild, aFill, aParts, seqParts, fitAll, List.range', ↓reduceIte, reduceCtorEq, Nat.reduceEqDiff, Nat.reduceAdd, Nat.reduceLeDiff, Nat.reduceMul, Nat.reduceLT, Nat.reduceBEq, Int.reduceEq, tf_V6_80]
    exact ⟨by rw [Tm.soft, subB, h2]; rfl, (Drops.refl _).upd hb⟩
  · rw [h1]
    have hbd : ∀ x : Bd, bdAv x = .agg (.int .i64 x.1 :: x.2.av.cells) := fun _ => rfl
    simp -implicitDefEqProofs only [show decide ((j : Int) < 0) = false by simp, ev_at (av := bdAv) eI_44 h2 (bdAv_width x), hbd, bdAv_width x, evb0, evb1, evb2, evb3, evb4, evb5, evb6, evb7, evb8, evb9, ↓evZ2, ↓evZ3, ↓Int.cast_ofNat_Int, implies_true, ne_eq, or_false, false_or, or_self, gt_iff_lt, isMut, aFn, List.contains, List.elem, aBox, aField, aLoad, sub, aNil, aPick, aExt, aFld, gd, noJunk, plainOp, aBuildSlice, aBuild, aFill, aParts, seqParts, fitAll, List.range', ↓reduceIte, reduceCtorEq, Nat.reduceEqDiff, Nat.reduceAdd, Nat.reduceLeDiff, Nat.reduceMul, Nat.reduceLT, Nat.reduceBEq, Int.reduceEq, tf_V6_80]
    exact ⟨by rw [Tm.soft, subB, h3]; rfl, (Drops.refl _).upd hb⟩

theorem tf_V6_79 : (type_of% tI_3) ∧ (type_of% zI_3) ∧ (type_of% Go.Proofs.Try.underlying3) ∧ (type_of% tI_4) ∧ (type_of% zI_4) ∧ (type_of% Go.Proofs.Try.underlying4) ∧ (type_of% tI_5) ∧ (type_of% zI_5) ∧ (type_of% Go.Proofs.Try.underlying5) ∧ (type_of% tI_7) ∧ (type_of% zI_7) ∧ (type_of% fI_7_0) ∧ (type_of% fI_7_1) ∧ (type_of% fI_7_2) ∧ (type_of% fI_7_3) ∧ (type_of% bI_7) ∧ (type_of% tI_27) ∧ (type_of% zI_27) ∧ (type_of% eI_27) ∧ (type_of% eB_27) ∧ (type_of% eZ_27) ∧ (type_of% Go.Proofs.Try.underlying27) ∧ (type_of% tI_41) ∧ (type_of% zI_41) ∧ (type_of% fI_41_0) ∧ (type_of% fI_41_1) ∧ (type_of% fI_41_2) ∧ (type_of% fI_41_3) ∧ (type_of% bI_41) ∧ (type_of% tI_54) ∧ (type_of% zI_54) ∧ (type_of% fI_54_0) ∧ (type_of% fI_54_1) ∧ (type_of% bI_54) := ⟨tI_3, zI_3, Go.Proofs.Try.underlying3, tI_4, zI_4, Go.Proofs.Try.underlying4, tI_5, zI_5, Go.Proofs.Try.underlying5, tI_7, zI_7, fI_7_0, fI_7_1, fI_7_2, fI_7_3, bI_7, tI_27, zI_27, eI_27, eB_27, eZ_27, Go.Proofs.Try.underlying27, tI_41, zI_41, fI_41_0, fI_41_1, fI_41_2, fI_41_3, bI_41, tI_54, zI_54, fI_54_0, fI_54_1, bI_54⟩
theorem c_ApplyBinds_1 (b : Bd) (st : Store) : ACalls prog 79 [bdAv b] st (fun r st' => r = .bool (!b.2.valid) ∧ st' = st) := by
  refine acalls_fit [1000000] func79 ntmps79 rfl rfl (by kernel_rfl) (by decide +kernel) (by show 1 ≤ _; decide +kernel) ?_
  intro _
  unfold bdAv
  simp -implicitDefEqProofs only [evb0, evb1, evb2, evb3, evb4, evb5, evb6, evb7, evb8, evb9, ↓evZ2, ↓evZ3, ↓Int.cast_ofNat_Int, implies_true, ne_eq, or_false, false_or, or_self, gt_iff_lt, isMut, aFn, List.contains, List.elem, aBox, aField, aLoad, sub, aNil, aPick, aExt, aFld, gd, noJunk, plainOp, aBuildSlice, aBuild, aFill, aParts, seqParts, fitAll, List.range', ↓reduceIte, reduceCtorEq, Nat.reduceEqDiff, Nat.reduceAdd, Nat.reduceLeDiff, Nat.reduceMul, Nat.reduceLT, Nat.reduceBEq, Int.reduceEq, tf_V6_79]
  refine (c_impl_TermValid b.2 st).to ?_
  simp -implicitDefEqProofs only [evb0, evb1, evb2, evb3, evb4, evb5, evb6, evb7, evb8, evb9, ↓evZ2, ↓evZ3, ↓Int.cast_ofNat_Int, implies_true, ne_eq, or_false, false_or, or_self, gt_iff_lt, isMut, aFn, List.contains, List.elem, aBox, aField, aLoad, sub, aNil, aPick, aExt, aFld, gd, noJunk, plainOp, aBuildSlice, aBuild, aFill, aParts, seqParts, fitAll, List.range', ↓reduceIte, reduceCtorEq, Nat.reduceEqDiff, Nat.reduceAdd, Nat.reduceLeDiff, Nat.reduceMul, Nat.reduceLT, Nat.reduceBEq, Int.reduceEq, tf_V6_79]

theorem tf_V6_61 : (type_of% tI_2) ∧ (type_of% zI_2) ∧ (type_of% Go.Proofs.Try.underlying2) ∧ (type_of% tI_3) ∧ (type_of% zI_3) ∧ (type_of% Go.Proofs.Try.underlying3) ∧ (type_of% tI_4) ∧ (type_of% zI_4) ∧ (type_of% Go.Proofs.Try.underlying4) ∧ (type_of% tI_5) ∧ (type_of% zI_5) ∧ (type_of% Go.Proofs.Try.underlying5) ∧ (type_of% tI_6) ∧ (type_of% zI_6) ∧ (type_of% Go.Proofs.Try.underlying6) ∧ (type_of% tI_7) ∧ (type_of% zI_7) ∧ (type_of% fI_7_0) ∧ (type_of% fI_7_1) ∧ (type_of% fI_7_2) ∧ (type_of% fI_7_3) ∧ (type_of% bI_7) ∧ (type_of% tI_8) ∧ (type_of% zI_8) ∧ (type_of% fI_8_0) ∧ (type_of% fI_8_1) ∧ (type_of% fI_8_2) ∧ (type_of% fI_8_3) ∧ (type_of% bI_8) ∧ (type_of% tI_9) ∧ (type_of% zI_9) ∧ (type_of% Go.Proofs.Try.underlying9) ∧ (type_of% tI_10) ∧ (type_of% zI_10) ∧ (type_of% Go.Proofs.Try.underlying10) ∧ (type_of% tI_11) ∧ (type_of% zI_11) ∧ (type_of% Go.Proofs.Try.underlying11) ∧ (type_of% tI_13) ∧ (type_of% zI_13) ∧ (type_of% fI_13_0) ∧ (type_of% fI_13_1) ∧ (type_of% bI_13) ∧ (type_of% tI_14) ∧ (type_of% zI_14) ∧ (type_of% fI_14_0) ∧ (type_of% fI_14_1) ∧ (type_of% bI_14) ∧ (type_of% tI_18) ∧ (type_of% zI_18) ∧ (type_of% fI_18_0) ∧ (type_of% bI_18) ∧ (type_of% tI_19) ∧ (type_of% zI_19) ∧ (type_of% fI_19_0) ∧ (type_of% bI_19) ∧ (type_of% tI_27) ∧ (type_of% zI_27) ∧ (type_of% eI_27) ∧ (type_of% eB_27) ∧ (type_of% eZ_27) ∧ (type_of% Go.Proofs.Try.underlying27) ∧ (type_of% tI_32) ∧ (type_of% zI_32) ∧ (type_of% fI_32_0) ∧ (type_of% bI_32) ∧ (type_of% tI_41) ∧ (type_of% zI_41) ∧ (type_of% fI_41_0) ∧ (type_of% fI_41_1) ∧ (type_of% fI_41_2) ∧ (type_of% fI_41_3) ∧ (type_of% bI_41) ∧ (type_of% tI_64) ∧ (type_of% zI_64) ∧ (type_of% fI_64_0) ∧ (type_of% fI_64_1) ∧ (type_of% bI_64) := ⟨tI_2, zI_2, Go.Proofs.Try.underlying2, tI_3, zI_3, Go.Proofs.Try.underlying3, tI_4, zI_4, Go.Proofs.Try.underlying4, tI_5, zI_5, Go.Proofs.Try.underlying5, tI_6, zI_6, Go.Proofs.Try.underlying6, tI_7, zI_7, fI_7_0, fI_7_1, fI_7_2, fI_7_3, bI_7, tI_8, zI_8, fI_8_0, fI_8_1, fI_8_2, fI_8_3, bI_8, tI_9, zI_9, Go.Proofs.Try.underlying9, tI_10, zI_10, Go.Proofs.Try.underlying10, tI_11, zI_11, Go.Proofs.Try.underlying11, tI_13, zI_13, fI_13_0, fI_13_1, bI_13, tI_14, zI_14, fI_14_0, fI_14_1, bI_14, tI_18, zI_18, fI_18_0, bI_18, tI_19, zI_19, fI_19_0, bI_19, tI_27, zI_27, eI_27, eB_27, eZ_27, Go.Proofs.Try.underlying27, tI_32, zI_32, fI_32_0, bI_32, tI_41, zI_41, fI_41_0, fI_41_1, fI_41_2, fI_41_3, bI_41, tI_64, zI_64, fI_64_0, fI_64_1, bI_64⟩
theorem c_mapVars (f : Int → Tm) (g : FuncId) (caps : List AV) (hcap : noJunk caps = true) : ∀ (t : Tm) (st : Store), t.small = true → (∀ n ∈ t.vl, ∀ s, ACalls prog g (.int .i64 n :: caps) s (fun r s' => r = (f n).av ∧ s' = s)) →
    ACalls prog 61 [t.av, .func g caps] st (fun r st' => r = (t.mapv f).av ∧ st' = st)
  | .mk k n s ts, st, hsm, hg => by
    obtain ⟨hlen, hsms⟩ := Tm.small_mk hsm
    have IH := fun (x : Tm) (hx : x ∈ ts) st h => c_mapVars f g caps hcap x st (hsms x hx) h
    refine ACalls.drop2 (ACalls.fin ?_)
    simp only [Tm.av_mk]
    refine acalls_fit [1000000, 2] func61 ntmps61 rfl rfl (by kernel_rfl) (by decide +kernel) (by show 2 ≤ _; decide +kernel) ?_
    simp only [fitsL, AV.fits, and_true, List.length_map]
    intro ⟨_, _, _, hl, _⟩
    simp -implicitDefEqProofs only [evb0, evb1, evb2, evb3, evb4, evb5, evb6, evb7, evb8, evb9, ↓evZ2, ↓evZ3, ↓Int.cast_ofNat_Int, implies_true, ne_eq, or_false, false_or, or_self, gt_iff_lt, isMut, aFn, List.contains, List.elem, aBox, aField, aLoad, sub, aNil, aPick, aExt, aFld, gd, noJunk, plainOp, aBuildSlice, aBuild, aFill, aParts, seqParts, fitAll, List.range', ↓reduceIte, reduceCtorEq, Nat.reduceEqDiff, Nat.reduceAdd, Nat.reduceLeDiff, Nat.reduceMul, Nat.reduceLT, Nat.reduceBEq, Int.reduceEq, tf_V6_61]
    intro c hc b2 hb2
    have hne : b2 ≠ c := by rintro rfl; rw [Store.upd_same] at hb2; cases hb2
    have hn2 : st b2 = none := by rw [Store.upd_ne st _ hne] at hb2; exact hb2
    simp -implicitDefEqProofs only [hne, hne.symm, evb0, evb1, evb2, evb3, evb4, evb5, evb6, evb7, evb8, evb9, ↓evZ2, ↓evZ3, ↓Int.cast_ofNat_Int, implies_true, ne_eq, or_false, false_or, or_self, gt_iff_lt, isMut, aFn, List.contains, List.elem, aBox, aField, aLoad, sub, aNil, aPick, aExt, aFld, gd, noJunk, plainOp, aBuildSlice, aBuild, aFill, aParts, seqParts, fitAll, List.range', ↓reduceIte, reduceCtorEq, Nat.reduceEqDiff, Nat.reduceAdd, Nat.reduceLeDiff, Nat.reduceMul, Nat.reduceLT, Nat.reduceBEq, Int.reduceEq, tf_V6_61]
    refine cond_split (fun h => ?_) (fun h => ?_)
    · simp only [decide_eq_true_eq] at h
      subst h
      simp -implicitDefEqProofs only [hne, hne.symm, evb0, evb1, evb2, evb3, evb4, evb5, evb6, evb7, evb8, evb9, ↓evZ2, ↓evZ3, ↓Int.cast_ofNat_Int, implies_true, ne_eq, or_false, false_or, or_self, gt_iff_lt, isMut, aFn, List.contains, List.elem, aBox, aField, aLoad, sub, aNil, aPick, aExt, aFld, gd, noJunk, plainOp, aBuildSlice, aBuild, aFill, aParts, seqParts, fitAll, List.range', ↓reduceIte, reduceCtorEq, Nat.reduceEqDiff, Nat.reduceAdd, Nat.reduceLeDiff, Nat.reduceMul, Nat.reduceLT, Nat.reduceBEq, Int.reduceEq, tf_V6_61]
      refine (hg n (by rw [Tm.vl_var rfl]; simp) _).to ?_
      simp -implicitDefEqProofs only [hne, hne.symm, evb0, evb1, evb2, evb3, evb4, evb5, evb6, evb7, evb8, evb9, ↓evZ2, ↓evZ3, ↓Int.cast_ofNat_Int, implies_true, ne_eq, or_false, false_or, or_self, gt_iff_lt, isMut, aFn, List.contains, List.elem, aBox, aField, aLoad, sub, aNil, aPick, aExt, aFld, gd, noJunk, plainOp, aBuildSlice, aBuild, aFill, aParts, seqParts, fitAll, List.range', ↓reduceIte, reduceCtorEq, Nat.reduceEqDiff, Nat.reduceAdd, Nat.reduceLeDiff, Nat.reduceMul, Nat.reduceLT, Nat.reduceBEq, Int.reduceEq, tf_V6_61]
      refine ⟨0, [], _, rfl, by simp, by simp, ⟨4, by simp⟩, by rw [Tm.fin0, Tm.mapv_var f rfl], ?_⟩
      exact ((Drops.refl _).upd hc).upd hn2
    simp only [decide_eq_false_iff_not] at h
    have hg' : ∀ x ∈ ts, ∀ v ∈ x.vl, ∀ s, ACalls prog g (.int .i64 v :: caps) s (fun r s' => r = (f v).av ∧ s' = s) := fun x hx v hv => hg v ((Tm.vl_mk h).2 ⟨x, hx, hv⟩)
    simp -implicitDefEqProofs only [hne, hne.symm, setCells, List.length_map, evb0, evb1, evb2, evb3, evb4, evb5, evb6, evb7, evb8, evb9, ↓evZ2, ↓evZ3, ↓Int.cast_ofNat_Int, implies_true, ne_eq, or_false, false_or, or_self, gt_iff_lt, isMut, aFn, List.contains, List.elem, aBox, aField, aLoad, sub, aNil, aPick, aExt, aFld, gd, noJunk, plainOp, aBuildSlice, aBuild, aFill, aParts, seqParts, fitAll, List.range', ↓reduceIte, reduceCtorEq, Nat.reduceEqDiff, Nat.reduceAdd, Nat.reduceLeDiff, Nat.reduceMul, Nat.reduceLT, Nat.reduceBEq, Int.reduceEq, tf_V6_61]
    rw [Store.upd_mid hne]
    refine arun_each (σ := Nat) [1000000] [1, 2, 4, 18, 19] ts (fun i b => (((ts.take i).map (Tm.mapv f)).map Tm.av ≠ [] → (Store.upd (st.upd b2 (.cells [AV.int .i64 0, AV.int .i64 0, AV.str ⟨#[]⟩, AV.fslice []])) c (.cells ([AV.int .i64 k, AV.int .i64 n, AV.str s] ++ [accV 4 b (((ts.take i).map (Tm.mapv f)).map Tm.av)]))) b = none)) (fun i b => [(20, .int .i64 i)]) (fun i b => kidS (st.upd b2 (.cells [AV.int .i64 0, AV.int .i64 0, AV.str ⟨#[]⟩, AV.fslice []])) c b [AV.int .i64 k, AV.int .i64 n, AV.str s] (((ts.take i).map (Tm.mapv f)).map Tm.av)) (by decide +kernel)
      ⟨0, fun h => absurd rfl h, LessL.mk (by simp -implicitDefEqProofs only [List.length_map, evb0, evb1, evb2, evb3, evb4, evb5, evb6, evb7, evb8, evb9, ↓evZ2, ↓evZ3, ↓Int.cast_ofNat_Int, implies_true, ne_eq, or_false, false_or, or_self, gt_iff_lt, isMut, aFn, List.contains, List.elem, aBox, aField, aLoad, sub, aNil, aPick, aExt, aFld, gd, noJunk, plainOp, aBuildSlice, aBuild, aFill, aParts, seqParts, fitAll, List.range', ↓reduceIte, reduceCtorEq, Nat.reduceEqDiff, Nat.reduceAdd, Nat.reduceLeDiff, Nat.reduceMul, Nat.reduceLT, Nat.reduceBEq, Int.reduceEq, tf_V6_61])⟩ (fun i x b hx hlt hlt' hdr hinv => ?_) (fun b hge hinv => ?_)
    case refine_1 =>
      have hw := wrap64 (n := (i : Int) + 1) (by omega) (by omega)
      have hlen' : (((ts.take i).map (Tm.mapv f)).map Tm.av).length = i := by simp only [List.length_map, List.length_take]; omega
      have htk : (ts.take (i + 1)).map (Tm.mapv f) = (ts.take i).map (Tm.mapv f) ++ [(Tm.mapv f) x] := by rw [List.take_add_one, hx]; simp
      have hbo := kidS_c hinv
      simp -implicitDefEqProofs only [List.length_map, hlt', ev_at (av := Tm.av) eI_27 hx (Tm.av_width x), hne, evb0, evb1, evb2, evb3, evb4, evb5, evb6, evb7, evb8, evb9, ↓evZ2, ↓evZ3, ↓Int.cast_ofNat_Int, implies_true, ne_eq, or_false, false_or, or_self, gt_iff_lt, isMut, aFn, List.contains, List.elem, aBox, aField, aLoad, sub, aNil, aPick, aExt, aFld, gd, noJunk, plainOp, aBuildSlice, aBuild, aFill, aParts, seqParts, fitAll, List.range', ↓reduceIte, reduceCtorEq, Nat.reduceEqDiff, Nat.reduceAdd, Nat.reduceLeDiff, Nat.reduceMul, Nat.reduceLT, Nat.reduceBEq, Int.reduceEq, tf_V6_61]
      refine arun_plan [(0, 1), (3, 1), (1, 2), (2, 2), (4, 2), (5, 1), (6, 0), (7, 1), (8, 0)] [0, 3, 1, 2, 4, 5, 7] mixed (by decide +kernel) (by decide +kernel) (by decide +kernel) ?_
      simp -implicitDefEqProofs only [ev_at (av := Tm.av) eI_27 hx (Tm.av_width x), Tm.av_agg, Tm.av_width, hbo, accV_agg, accV_width, hne, evb0, evb1, evb2, evb3, evb4, evb5, evb6, evb7, evb8, evb9, ↓evZ2, ↓evZ3, ↓Int.cast_ofNat_Int, implies_true, ne_eq, or_false, false_or, or_self, gt_iff_lt, isMut, aFn, List.contains, List.elem, aBox, aField, aLoad, sub, aNil, aPick, aExt, aFld, gd, noJunk, plainOp, aBuildSlice, aBuild, aFill, aParts, seqParts, fitAll, List.range', ↓reduceIte, reduceCtorEq, Nat.reduceEqDiff, Nat.reduceAdd, Nat.reduceLeDiff, Nat.reduceMul, Nat.reduceLT, Nat.reduceBEq, Int.reduceEq, tf_V6_61]
      refine callH_mk (IH x (List.mem_of_getElem? hx) _ (hg' x (List.mem_of_getElem? hx))) ?_
      simp -implicitDefEqProofs only [Tm.av_agg, Tm.av_width, Tm.av_junk, hbo, accV_agg, accV_width, hne, evb0, evb1, evb2, evb3, evb4, evb5, evb6, evb7, evb8, evb9, ↓evZ2, ↓evZ3, ↓Int.cast_ofNat_Int, implies_true, ne_eq, or_false, false_or, or_self, gt_iff_lt, isMut, aFn, List.contains, List.elem, aBox, aField, aLoad, sub, aNil, aPick, aExt, aFld, gd, noJunk, plainOp, aBuildSlice, aBuild, aFill, aParts, seqParts, fitAll, List.range', ↓reduceIte, reduceCtorEq, Nat.reduceEqDiff, Nat.reduceAdd, Nat.reduceLeDiff, Nat.reduceMul, Nat.reduceLT, Nat.reduceBEq, Int.reduceEq, tf_V6_61]
      refine acc_append eI_27 eB_27 eZ_27 rfl rfl (by intro e he; simp only [List.mem_cons, List.not_mem_nil, or_false] at he; subst he; exact ⟨Tm.av_width _, Tm.av_store _⟩) (tm_widths _) hinv (by simp only [hlen', List.length_cons, List.length_nil]; omega) (by simp only [hlen', List.length_cons, List.length_nil]; omega) (fun b' hb' => ?_)
      rw [show (((ts.take i).map (Tm.mapv f)).map Tm.av) ++ [((Tm.mapv f) x).av] = ((ts.take (i + 1)).map (Tm.mapv f)).map Tm.av by rw [htk]; simp] at hb' ⊢
      obtain ⟨g1, g2, g3⟩ := kidS_set hb'
      simp only [List.cons_append, List.nil_append] at g1 g3
      simp -implicitDefEqProofs only [g3, accV_cells, accV_store, setCells, Nat.le_refl, g1, hw, evb0, evb1, evb2, evb3, evb4, evb5, evb6, evb7, evb8, evb9, ↓evZ2, ↓evZ3, ↓Int.cast_ofNat_Int, implies_true, ne_eq, or_false, false_or, or_self, gt_iff_lt, isMut, aFn, List.contains, List.elem, aBox, aField, aLoad, sub, aNil, aPick, aExt, aFld, gd, noJunk, plainOp, aBuildSlice, aBuild, aFill, aParts, seqParts, fitAll, List.range', ↓reduceIte, reduceCtorEq, Nat.reduceEqDiff, Nat.reduceAdd, Nat.reduceLeDiff, Nat.reduceMul, Nat.reduceLT, Nat.reduceBEq, Int.reduceEq, tf_V6_61]
      exact ⟨b', g2, LessL.mk (by simp -implicitDefEqProofs only [evb0, evb1, evb2, evb3, evb4, evb5, evb6, evb7, evb8, evb9, ↓evZ2, ↓evZ3, ↓Int.cast_ofNat_Int, implies_true, ne_eq, or_false, false_or, or_self, gt_iff_lt, isMut, aFn, List.contains, List.elem, aBox, aField, aLoad, sub, aNil, aPick, aExt, aFld, gd, noJunk, plainOp, aBuildSlice, aBuild, aFill, aParts, seqParts, fitAll, List.range', ↓reduceIte, reduceCtorEq, Nat.reduceEqDiff, Nat.reduceAdd, Nat.reduceLeDiff, Nat.reduceMul, Nat.reduceLT, Nat.reduceBEq, Int.reduceEq, tf_V6_61])⟩
    have hbo := kidS_c hinv
    rw [List.take_length] at hinv hbo ⊢
    simp -implicitDefEqProofs only [List.length_map, hge, evb0, evb1, evb2, evb3, evb4, evb5, evb6, evb7, evb8, evb9, ↓evZ2, ↓evZ3, ↓Int.cast_ofNat_Int, implies_true, ne_eq, or_false, false_or, or_self, gt_iff_lt, isMut, aFn, List.contains, List.elem, aBox, aField, aLoad, sub, aNil, aPick, aExt, aFld, gd, noJunk, plainOp, aBuildSlice, aBuild, aFill, aParts, seqParts, fitAll, List.range', ↓reduceIte, reduceCtorEq, Nat.reduceEqDiff, Nat.reduceAdd, Nat.reduceLeDiff, Nat.reduceMul, Nat.reduceLT, Nat.reduceBEq, Int.reduceEq, tf_V6_61]
    simp -implicitDefEqProofs only [hbo, evb0, evb1, evb2, evb3, evb4, evb5, evb6, evb7, evb8, evb9, ↓evZ2, ↓evZ3, ↓Int.cast_ofNat_Int, implies_true, ne_eq, or_false, false_or, or_self, gt_iff_lt, isMut, aFn, List.contains, List.elem, aBox, aField, aLoad, sub, aNil, aPick, aExt, aFld, gd, noJunk, plainOp, aBuildSlice, aBuild, aFill, aParts, seqParts, fitAll, List.range', ↓reduceIte, reduceCtorEq, Nat.reduceEqDiff, Nat.reduceAdd, Nat.reduceLeDiff, Nat.reduceMul, Nat.reduceLT, Nat.reduceBEq, Int.reduceEq, tf_V6_61]
    have hS : (st.upd b2 (.cells [AV.int .i64 0, AV.int .i64 0, AV.str ⟨#[]⟩, AV.fslice []])) b2 ≠ none := by rw [Store.upd_same]; simp
    have h1 := kidS_ne hinv hS hne
    rw [Store.upd_same] at h1
    simp -implicitDefEqProofs only [h1, accV_store, accV_cells, setCells, Nat.le_refl, evb0, evb1, evb2, evb3, evb4, evb5, evb6, evb7, evb8, evb9, ↓evZ2, ↓evZ3, ↓Int.cast_ofNat_Int, implies_true, ne_eq, or_false, false_or, or_self, gt_iff_lt, isMut, aFn, List.contains, List.elem, aBox, aField, aLoad, sub, aNil, aPick, aExt, aFld, gd, noJunk, plainOp, aBuildSlice, aBuild, aFill, aParts, seqParts, fitAll, List.range', ↓reduceIte, reduceCtorEq, Nat.reduceEqDiff, Nat.reduceAdd, Nat.reduceLeDiff, Nat.reduceMul, Nat.reduceLT, Nat.reduceBEq, Int.reduceEq, tf_V6_61]
    obtain ⟨h2, h3⟩ := kidS_upd (o := .cells [AV.int .i64 k, AV.int .i64 n, AV.str s, accV 4 b ((ts.map (Tm.mapv f)).map Tm.av)]) hinv hS hne
    refine ⟨b, _, _, h2, h3, tm_junk _, ⟨4, tm_widths _⟩, ?_, ?_⟩
    · rw [Tm.mapv_mk f h]
      simp only [fin_agg, List.map_cons, List.map_nil, fin_int, fin_str, accV_fin, Tm.av_mk]
    · exact (((Drops.refl _).upd hn2).upd hc).upd hn2
termination_by t => SizeOf.sizeOf t
decreasing_by have := List.sizeOf_lt_of_mem hx; simp only [Tm.mk.sizeOf_spec]; omega
end Go.AW


/- Bindings applied: what the program's and the reference's functions return. -/
namespace Go.AW
open Go.Proofs.Try
set_option linter.unusedSimpArgs false
set_option maxRecDepth 100000

def optAv : Option Tm → AV
  | some t => .tup [t.av, .bool true]
  | none => .tup [Tm.zero.av, .bool false]

theorem tf_V7_167 : (type_of% tI_2) ∧ (type_of% zI_2) ∧ (type_of% Go.Proofs.Try.underlying2) ∧ (type_of% tI_3) ∧ (type_of% zI_3) ∧ (type_of% Go.Proofs.Try.underlying3) ∧ (type_of% tI_4) ∧ (type_of% zI_4) ∧ (type_of% Go.Proofs.Try.underlying4) ∧ (type_of% tI_5) ∧ (type_of% zI_5) ∧ (type_of% Go.Proofs.Try.underlying5) ∧ (type_of% tI_6) ∧ (type_of% zI_6) ∧ (type_of% Go.Proofs.Try.underlying6) ∧ (type_of% tI_7) ∧ (type_of% zI_7) ∧ (type_of% fI_7_0) ∧ (type_of% fI_7_1) ∧ (type_of% fI_7_2) ∧ (type_of% fI_7_3) ∧ (type_of% bI_7) ∧ (type_of% tI_8) ∧ (type_of% zI_8) ∧ (type_of% fI_8_0) ∧ (type_of% fI_8_1) ∧ (type_of% fI_8_2) ∧ (type_of% fI_8_3) ∧ (type_of% bI_8) ∧ (type_of% tI_9) ∧ (type_of% zI_9) ∧ (type_of% Go.Proofs.Try.underlying9) ∧ (type_of% tI_24) ∧ (type_of% zI_24) ∧ (type_of% fI_24_0) ∧ (type_of% bI_24) ∧ (type_of% tI_41) ∧ (type_of% zI_41) ∧ (type_of% fI_41_0) ∧ (type_of% fI_41_1) ∧ (type_of% fI_41_2) ∧ (type_of% fI_41_3) ∧ (type_of% bI_41) ∧ (type_of% tI_44) ∧ (type_of% zI_44) ∧ (type_of% eI_44) ∧ (type_of% eB_44) ∧ (type_of% eZ_44) ∧ (type_of% Go.Proofs.Try.underlying44) ∧ (type_of% tI_54) ∧ (type_of% zI_54) ∧ (type_of% fI_54_0) ∧ (type_of% fI_54_1) ∧ (type_of% bI_54) ∧ (type_of% tI_64) ∧ (type_of% zI_64) ∧ (type_of% fI_64_0) ∧ (type_of% fI_64_1) ∧ (type_of% bI_64) := ⟨tI_2, zI_2, Go.Proofs.Try.underlying2, tI_3, zI_3, Go.Proofs.Try.underlying3, tI_4, zI_4, Go.Proofs.Try.underlying4, tI_5, zI_5, Go.Proofs.Try.underlying5, tI_6, zI_6, Go.Proofs.Try.underlying6, tI_7, zI_7, fI_7_0, fI_7_1, fI_7_2, fI_7_3, bI_7, tI_8, zI_8, fI_8_0, fI_8_1, fI_8_2, fI_8_3, bI_8, tI_9, zI_9, Go.Proofs.Try.underlying9, tI_24, zI_24, fI_24_0, bI_24, tI_41, zI_41, fI_41_0, fI_41_1, fI_41_2, fI_41_3, bI_41, tI_44, zI_44, eI_44, eB_44, eZ_44, Go.Proofs.Try.underlying44, tI_54, zI_54, fI_54_0, fI_54_1, bI_54, tI_64, zI_64, fI_64_0, fI_64_1, bI_64⟩
theorem c_l3Find (bs : List Bd) (n : Int) (st : Store) : ACalls prog 167 [.slice (bs.map bdAv), .int .i64 n] st (fun r st' => r = optAv (findB bs n) ∧ st' = st) := by
  refine ACalls.done ?_
  refine acalls_fit [1000000] func167 ntmps167 rfl rfl (by kernel_rfl) (by decide +kernel) (by show 2 ≤ _; decide +kernel) ?_
  simp only [fitsL, AV.fits, and_true, List.length_map]
  intro ⟨hl, _⟩
  simp -implicitDefEqProofs only [setCells, List.length_map, evb0, evb1, evb2, evb3, evb4, evb5, evb6, evb7, evb8, evb9, ↓evZ2, ↓evZ3, ↓Int.cast_ofNat_Int, implies_true, ne_eq, or_false, false_or, or_self, gt_iff_lt, isMut, aFn, List.contains, List.elem, aBox, aField, aLoad, sub, aNil, aPick, aExt, aFld, gd, noJunk, plainOp, aBuildSlice, aBuild, aFill, aParts, seqParts, fitAll, List.range', ↓reduceIte, reduceCtorEq, Nat.reduceEqDiff, Nat.reduceAdd, Nat.reduceLeDiff, Nat.reduceMul, Nat.reduceLT, Nat.reduceBEq, Int.reduceEq, tf_V7_167]
  intro b hb
  refine arun_each (σ := Unit) [1000000] [0, 1, 4] bs (fun i _ => findB (bs.drop i) n = findB bs n) (fun i _ => [(6, .int .i64 i)]) (fun _ _ => st.upd b (.cells [.int .i64 0, .int .i64 0, .str ⟨#[]⟩, .fslice []])) (by decide +kernel) ⟨(), rfl, LessL.mk (by simp -implicitDefEqProofs only [setCells, List.length_map, evb0, evb1, evb2, evb3, evb4, evb5, evb6, evb7, evb8, evb9, ↓evZ2, ↓evZ3, ↓Int.cast_ofNat_Int, implies_true, ne_eq, or_false, false_or, or_self, gt_iff_lt, isMut, aFn, List.contains, List.elem, aBox, aField, aLoad, sub, aNil, aPick, aExt, aFld, gd, noJunk, plainOp, aBuildSlice, aBuild, aFill, aParts, seqParts, fitAll, List.range', ↓reduceIte, reduceCtorEq, Nat.reduceEqDiff, Nat.reduceAdd, Nat.reduceLeDiff, Nat.reduceMul, Nat.reduceLT, Nat.reduceBEq, Int.reduceEq, tf_V7_167])⟩ (fun i x _ hx hlt hlt' hdr hinv => ?_) (fun _ hge hinv => ?_)
  case refine_2 =>
    simp -implicitDefEqProofs only [List.length_map, hge, setCells, List.length_map, evb0, evb1, evb2, evb3, evb4, evb5, evb6, evb7, evb8, evb9, ↓evZ2, ↓evZ3, ↓Int.cast_ofNat_Int, implies_true, ne_eq, or_false, false_or, or_self, gt_iff_lt, isMut, aFn, List.contains, List.elem, aBox, aField, aLoad, sub, aNil, aPick, aExt, aFld, gd, noJunk, plainOp, aBuildSlice, aBuild, aFill, aParts, seqParts, fitAll, List.range', ↓reduceIte, reduceCtorEq, Nat.reduceEqDiff, Nat.reduceAdd, Nat.reduceLeDiff, Nat.reduceMul, Nat.reduceLT, Nat.reduceBEq, Int.reduceEq, tf_V7_167]
    rw [List.drop_length] at hinv
    rw [← hinv]
    exact ⟨by simp only [findB, optAv, Tm.zero, Tm.av_mk, soft_agg, soft_tup, soft_int, soft_bool, soft_str, soft_slice, soft_fslice, soft_ptr, soft_pptr, soft_map, soft_mslice, Tm.soft, List.map_cons, List.map_nil], (Drops.refl _).upd hb⟩
  obtain ⟨m, t⟩ := x
  rw [hdr] at hinv
  simp only [findB] at hinv
  have hw := wrap64 (n := (i : Int) + 1) (by omega) (by omega)
  have hat := ev_at (av := bdAv) eI_44 hx (bdAv_width _)
  have hbd : bdAv (m, t) = .agg (.int .i64 m :: t.av.cells) := rfl
  simp -implicitDefEqProofs only [hlt', setCells, List.length_map, hat, hbd, bdAv_width, evb0, evb1, evb2, evb3, evb4, evb5, evb6, evb7, evb8, evb9, ↓evZ2, ↓evZ3, ↓Int.cast_ofNat_Int, implies_true, ne_eq, or_false, false_or, or_self, gt_iff_lt, isMut, aFn, List.contains, List.elem, aBox, aField, aLoad, sub, aNil, aPick, aExt, aFld, gd, noJunk, plainOp, aBuildSlice, aBuild, aFill, aParts, seqParts, fitAll, List.range', ↓reduceIte, reduceCtorEq, Nat.reduceEqDiff, Nat.reduceAdd, Nat.reduceLeDiff, Nat.reduceMul, Nat.reduceLT, Nat.reduceBEq, Int.reduceEq, tf_V7_167]
  refine cond_split (fun h => ?_) (fun h => ?_)
  · simp only [decide_eq_true_eq] at h
    rw [if_pos h] at hinv
    simp -implicitDefEqProofs only [setCells, List.length_map, hat, hbd, bdAv_width, evb0, evb1, evb2, evb3, evb4, evb5, evb6, evb7, evb8, evb9, ↓evZ2, ↓evZ3, ↓Int.cast_ofNat_Int, implies_true, ne_eq, or_false, false_or, or_self, gt_iff_lt, isMut, aFn, List.contains, List.elem, aBox, aField, aLoad, sub, aNil, aPick, aExt, aFld, gd, noJunk, plainOp, aBuildSlice, aBuild, aFill, aParts, seqParts, fitAll, List.range', ↓reduceIte, reduceCtorEq, Nat.reduceEqDiff, Nat.reduceAdd, Nat.reduceLeDiff, Nat.reduceMul, Nat.reduceLT, Nat.reduceBEq, Int.reduceEq, tf_V7_167]
    rw [← hinv]
    exact ⟨by simp only [optAv, soft_agg, soft_tup, soft_int, soft_bool, soft_str, soft_slice, soft_fslice, soft_ptr, soft_pptr, soft_map, soft_mslice, Tm.soft, List.map_cons, List.map_nil], (Drops.refl _).upd hb⟩
  · simp only [decide_eq_false_iff_not] at h
    rw [if_neg h] at hinv
    simp -implicitDefEqProofs only [setCells, List.length_map, hat, hbd, bdAv_width, evb0, evb1, evb2, evb3, evb4, evb5, evb6, evb7, evb8, evb9, ↓evZ2, ↓evZ3, ↓Int.cast_ofNat_Int, implies_true, ne_eq, or_false, false_or, or_self, gt_iff_lt, isMut, aFn, List.contains, List.elem, aBox, aField, aLoad, sub, aNil, aPick, aExt, aFld, gd, noJunk, plainOp, aBuildSlice, aBuild, aFill, aParts, seqParts, fitAll, List.range', ↓reduceIte, reduceCtorEq, Nat.reduceEqDiff, Nat.reduceAdd, Nat.reduceLeDiff, Nat.reduceMul, Nat.reduceLT, Nat.reduceBEq, Int.reduceEq, tf_V7_167]
    exact ⟨(), hinv, LessL.mk (by simp -implicitDefEqProofs only [hw, setCells, List.length_map, hat, hbd, bdAv_width, evb0, evb1, evb2, evb3, evb4, evb5, evb6, evb7, evb8, evb9, ↓evZ2, ↓evZ3, ↓Int.cast_ofNat_Int, implies_true, ne_eq, or_false, false_or, or_self, gt_iff_lt, isMut, aFn, List.contains, List.elem, aBox, aField, aLoad, sub, aNil, aPick, aExt, aFld, gd, noJunk, plainOp, aBuildSlice, aBuild, aFill, aParts, seqParts, fitAll, List.range', ↓reduceIte, reduceCtorEq, Nat.reduceEqDiff, Nat.reduceAdd, Nat.reduceLeDiff, Nat.reduceMul, Nat.reduceLT, Nat.reduceBEq, Int.reduceEq, tf_V7_167])⟩

theorem l3_none {k n : Int} {s : ByteArray} {ts : List Tm} {bs : List Bd} (h : k = 1) (hs : s = ⟨#[]⟩) (hts : ts = []) (hf : findB bs n = none) : (Tm.mk k n s (ts.map (Tm.mapv (subB bs)))).av = ((Tm.mk k n s ts).mapv (subB bs)).av := by
  rw [Tm.mapv_var _ h, subB, hf, h, hs, hts]
  rfl
theorem tf_V7_116 : (type_of% tI_2) ∧ (type_of% zI_2) ∧ (type_of% Go.Proofs.Try.underlying2) ∧ (type_of% tI_3) ∧ (type_of% zI_3) ∧ (type_of% Go.Proofs.Try.underlying3) ∧ (type_of% tI_4) ∧ (type_of% zI_4) ∧ (type_of% Go.Proofs.Try.underlying4) ∧ (type_of% tI_5) ∧ (type_of% zI_5) ∧ (type_of% Go.Proofs.Try.underlying5) ∧ (type_of% tI_6) ∧ (type_of% zI_6) ∧ (type_of% Go.Proofs.Try.underlying6) ∧ (type_of% tI_7) ∧ (type_of% zI_7) ∧ (type_of% fI_7_0) ∧ (type_of% fI_7_1) ∧ (type_of% fI_7_2) ∧ (type_of% fI_7_3) ∧ (type_of% bI_7) ∧ (type_of% tI_8) ∧ (type_of% zI_8) ∧ (type_of% fI_8_0) ∧ (type_of% fI_8_1) ∧ (type_of% fI_8_2) ∧ (type_of% fI_8_3) ∧ (type_of% bI_8) ∧ (type_of% tI_9) ∧ (type_of% zI_9) ∧ (type_of% Go.Proofs.Try.underlying9) ∧ (type_of% tI_10) ∧ (type_of% zI_10) ∧ (type_of% Go.Proofs.Try.underlying10) ∧ (type_of% tI_13) ∧ (type_of% zI_13) ∧ (type_of% fI_13_0) ∧ (type_of% fI_13_1) ∧ (type_of% bI_13) ∧ (type_of% tI_15) ∧ (type_of% zI_15) ∧ (type_of% tI_16) ∧ (type_of% zI_16) ∧ (type_of% tI_21) ∧ (type_of% zI_21) ∧ (type_of% Go.Proofs.Try.underlying21) ∧ (type_of% tI_27) ∧ (type_of% zI_27) ∧ (type_of% eI_27) ∧ (type_of% eB_27) ∧ (type_of% eZ_27) ∧ (type_of% Go.Proofs.Try.underlying27) ∧ (type_of% tI_31) ∧ (type_of% zI_31) ∧ (type_of% fI_31_0) ∧ (type_of% bI_31) ∧ (type_of% tI_32) ∧ (type_of% zI_32) ∧ (type_of% fI_32_0) ∧ (type_of% bI_32) ∧ (type_of% tI_41) ∧ (type_of% zI_41) ∧ (type_of% fI_41_0) ∧ (type_of% fI_41_1) ∧ (type_of% fI_41_2) ∧ (type_of% fI_41_3) ∧ (type_of% bI_41) ∧ (type_of% tI_44) ∧ (type_of% zI_44) ∧ (type_of% eI_44) ∧ (type_of% eB_44) ∧ (type_of% eZ_44) ∧ (type_of% Go.Proofs.Try.underlying44) ∧ (type_of% tI_64) ∧ (type_of% zI_64) ∧ (type_of% fI_64_0) ∧ (type_of% fI_64_1) ∧ (type_of% bI_64) ∧ (type_of% tI_167) ∧ (type_of% zI_167) ∧ (type_of% fI_167_0) ∧ (type_of% fI_167_1) ∧ (type_of% bI_167) := ⟨tI_2, zI_2, Go.Proofs.Try.underlying2, tI_3, zI_3, Go.Proofs.Try.underlying3, tI_4, zI_4, Go.Proofs.Try.underlying4, tI_5, zI_5, Go.Proofs.Try.underlying5, tI_6, zI_6, Go.Proofs.Try.underlying6, tI_7, zI_7, fI_7_0, fI_7_1, fI_7_2, fI_7_3, bI_7, tI_8, zI_8, fI_8_0, fI_8_1, fI_8_2, fI_8_3, bI_8, tI_9, zI_9, Go.Proofs.Try.underlying9, tI_10, zI_10, Go.Proofs.Try.underlying10, tI_13, zI_13, fI_13_0, fI_13_1, bI_13, tI_15, zI_15, tI_16, zI_16, tI_21, zI_21, Go.Proofs.Try.underlying21, tI_27, zI_27, eI_27, eB_27, eZ_27, Go.Proofs.Try.underlying27, tI_31, zI_31, fI_31_0, bI_31, tI_32, zI_32, fI_32_0, bI_32, tI_41, zI_41, fI_41_0, fI_41_1, fI_41_2, fI_41_3, bI_41, tI_44, zI_44, eI_44, eB_44, eZ_44, Go.Proofs.Try.underlying44, tI_64, zI_64, fI_64_0, fI_64_1, bI_64, tI_167, zI_167, fI_167_0, fI_167_1, bI_167⟩
theorem c_l3Apply (bs : List Bd) (hbs : ∀ b ∈ bs, b.2.small = true) : ∀ (t : Tm) (st : Store), t.small = true → t.cv = true →
    ACalls prog 116 [t.av, .slice (bs.map bdAv)] st (fun r st' => r = (t.mapv (subB bs)).av ∧ st' = st)
  | .mk k n s ts, st, hsm, hcv => by
    obtain ⟨hlen, hsms⟩ := Tm.small_mk hsm
    obtain ⟨hk1, hcvs⟩ := Tm.cv_mk.1 hcv
    have IH := fun (x : Tm) (hx : x ∈ ts) st => c_l3Apply bs hbs x st (hsms x hx) (hcvs x hx)
    have hfs : ∀ (l : List Bd) x, (∀ b ∈ l, b.2.small = true) → findB l n = some x → x.small = true := by
      intro l
      induction l with
      | nil => intro x _ h; cases h
      | cons y l ih =>
        obtain ⟨m, t⟩ := y
        intro x hl h
        simp only [findB] at h
        split at h
        · cases h; exact hl (m, _) (by simp)
        · exact ih x (fun b hb => hl b (by simp [hb])) h
    refine ACalls.drop2 (ACalls.fin ?_)
    simp only [Tm.av_mk]
    refine acalls_fit [1000000, 7] func116 ntmps116 rfl rfl (by kernel_rfl) (by decide +kernel) (by show 2 ≤ _; decide +kernel) ?_
    simp only [fitsL, AV.fits, and_true, List.length_map]
    intro ⟨⟨_, _, _, hl, _⟩, _⟩
    simp -implicitDefEqProofs only [evb0, evb1, evb2, evb3, evb4, evb5, evb6, evb7, evb8, evb9, ↓evZ2, ↓evZ3, ↓Int.cast_ofNat_Int, implies_true, ne_eq, or_false, false_or, or_self, gt_iff_lt, isMut, aFn, List.contains, List.elem, aBox, aField, aLoad, sub, aNil, aPick, aExt, aFld, gd, noJunk, plainOp, aBuildSlice, aBuild, aFill, aParts, seqParts, fitAll, List.range', ↓reduceIte, reduceCtorEq, Nat.reduceEqDiff, Nat.reduceAdd, Nat.reduceLeDiff, Nat.reduceMul, Nat.reduceLT, Nat.reduceBEq, Int.reduceEq, tf_V7_116]
    intro b2 hb2
    refine cond_split (fun h => ?_) (fun h => ?_)
    · simp only [decide_eq_true_eq] at h
      obtain ⟨hs0, hts0⟩ := hk1 h
      simp -implicitDefEqProofs only [evb0, evb1, evb2, evb3, evb4, evb5, evb6, evb7, evb8, evb9, ↓evZ2, ↓evZ3, ↓Int.cast_ofNat_Int, implies_true, ne_eq, or_false, false_or, or_self, gt_iff_lt, isMut, aFn, List.contains, List.elem, aBox, aField, aLoad, sub, aNil, aPick, aExt, aFld, gd, noJunk, plainOp, aBuildSlice, aBuild, aFill, aParts, seqParts, fitAll, List.range', ↓reduceIte, reduceCtorEq, Nat.reduceEqDiff, Nat.reduceAdd, Nat.reduceLeDiff, Nat.reduceMul, Nat.reduceLT, Nat.reduceBEq, Int.reduceEq, tf_V7_116]
      refine (c_l3Find bs n _).to ?_
      cases hf : findB bs n with
      | some x =>
        simp -implicitDefEqProofs only [optAv, evb0, evb1, evb2, evb3, evb4, evb5, evb6, evb7, evb8, evb9, ↓evZ2, ↓evZ3, ↓Int.cast_ofNat_Int, implies_true, ne_eq, or_false, false_or, or_self, gt_iff_lt, isMut, aFn, List.contains, List.elem, aBox, aField, aLoad, sub, aNil, aPick, aExt, aFld, gd, noJunk, plainOp, aBuildSlice, aBuild, aFill, aParts, seqParts, fitAll, List.range', ↓reduceIte, reduceCtorEq, Nat.reduceEqDiff, Nat.reduceAdd, Nat.reduceLeDiff, Nat.reduceMul, Nat.reduceLT, Nat.reduceBEq, Int.reduceEq, tf_V7_116]
        refine (c_l1Copy x _ (hfs bs x hbs hf)).to ?_
        simp -implicitDefEqProofs only [evb0, evb1, evb2, evb3, evb4, evb5, evb6, evb7, evb8, evb9, ↓evZ2, ↓evZ3, ↓Int.cast_ofNat_Int, implies_true, ne_eq, or_false, false_or, or_self, gt_iff_lt, isMut, aFn, List.contains, List.elem, aBox, aField, aLoad, sub, aNil, aPick, aExt, aFld, gd, noJunk, plainOp, aBuildSlice, aBuild, aFill, aParts, seqParts, fitAll, List.range', ↓reduceIte, reduceCtorEq, Nat.reduceEqDiff, Nat.reduceAdd, Nat.reduceLeDiff, Nat.reduceMul, Nat.reduceLT, Nat.reduceBEq, Int.reduceEq, tf_V7_116]
        refine ⟨0, [], _, rfl, by simp, by simp, ⟨4, by simp⟩, by rw [Tm.fin0, Tm.mapv_var _ h, subB, hf]; rfl, (Drops.refl _).upd hb2⟩
      | none =>
        simp -implicitDefEqProofs only [optAv, evb0, evb1, evb2, evb3, evb4, evb5, evb6, evb7, evb8, evb9, ↓evZ2, ↓evZ3, ↓Int.cast_ofNat_Int, implies_true, ne_eq, or_false, false_or, or_self, gt_iff_lt, isMut, aFn, List.contains, List.elem, aBox, aField, aLoad, sub, aNil, aPick, aExt, aFld, gd, noJunk, plainOp, aBuildSlice, aBuild, aFill, aParts, seqParts, fitAll, List.range', ↓reduceIte, reduceCtorEq, Nat.reduceEqDiff, Nat.reduceAdd, Nat.reduceLeDiff, Nat.reduceMul, Nat.reduceLT, Nat.reduceBEq, Int.reduceEq, tf_V7_116]
        intro c hc
        have hne : c ≠ b2 := by rintro rfl; rw [Store.upd_same] at hc; cases hc
        have hn2 : st c = none := by rw [Store.upd_ne st _ hne] at hc; exact hc
        have hb2c : b2 ≠ c := Ne.symm hne
        have hS : (st.upd b2 (.cells [AV.int .i64 0, AV.int .i64 0, AV.str ⟨#[]⟩, AV.fslice []])) b2 ≠ none := by rw [Store.upd_same]; simp
        refine arun_each (σ := Nat) [1000000] [1, 2, 4, 7] ts (fun i b => (((ts.take i).map (Tm.mapv (subB bs))).map Tm.av ≠ [] → (Store.upd (st.upd b2 (.cells [AV.int .i64 0, AV.int .i64 0, AV.str ⟨#[]⟩, AV.fslice []])) c (.cells ([AV.int .i64 k, AV.int .i64 n, AV.str s] ++ [accV 4 b (((ts.take i).map (Tm.mapv (subB bs))).map Tm.av)]))) b = none)) (fun i b => [(8, .int .i64 i)]) (fun i b => kidS (st.upd b2 (.cells [AV.int .i64 0, AV.int .i64 0, AV.str ⟨#[]⟩, AV.fslice []])) c b [AV.int .i64 k, AV.int .i64 n, AV.str s] (((ts.take i).map (Tm.mapv (subB bs))).map Tm.av)) (by decide +kernel)
          ⟨0, fun h => absurd rfl h, LessL.mk (by simp -implicitDefEqProofs only [List.length_map, evb0, evb1, evb2, evb3, evb4, evb5, evb6, evb7, evb8, evb9, ↓evZ2, ↓evZ3, ↓Int.cast_ofNat_Int, implies_true, ne_eq, or_false, false_or, or_self, gt_iff_lt, isMut, aFn, List.contains, List.elem, aBox, aField, aLoad, sub, aNil, aPick, aExt, aFld, gd, noJunk, plainOp, aBuildSlice, aBuild, aFill, aParts, seqParts, fitAll, List.range', ↓reduceIte, reduceCtorEq, Nat.reduceEqDiff, Nat.reduceAdd, Nat.reduceLeDiff, Nat.reduceMul, Nat.reduceLT, Nat.reduceBEq, Int.reduceEq, tf_V7_116])⟩ (fun i x b hx hlt hlt' hdr hinv => ?_) (fun b hge hinv => ?_)
        case refine_1 =>
          have hw := wrap64 (n := (i : Int) + 1) (by omega) (by omega)
          have hlen' : (((ts.take i).map (Tm.mapv (subB bs))).map Tm.av).length = i := by simp only [List.length_map, List.length_take]; omega
          have htk : (ts.take (i + 1)).map (Tm.mapv (subB bs)) = (ts.take i).map (Tm.mapv (subB bs)) ++ [(Tm.mapv (subB bs)) x] := by rw [List.take_add_one, hx]; simp
          have hbo := kidS_c hinv
          simp -implicitDefEqProofs only [List.length_map, hlt', ev_at (av := Tm.av) eI_27 hx (Tm.av_width x), Nat.zero_add, evb0, evb1, evb2, evb3, evb4, evb5, evb6, evb7, evb8, evb9, ↓evZ2, ↓evZ3, ↓Int.cast_ofNat_Int, implies_true, ne_eq, or_false, false_or, or_self, gt_iff_lt, isMut, aFn, List.contains, List.elem, aBox, aField, aLoad, sub, aNil, aPick, aExt, aFld, gd, noJunk, plainOp, aBuildSlice, aBuild, aFill, aParts, seqParts, fitAll, List.range', ↓reduceIte, reduceCtorEq, Nat.reduceEqDiff, Nat.reduceAdd, Nat.reduceLeDiff, Nat.reduceMul, Nat.reduceLT, Nat.reduceBEq, Int.reduceEq, tf_V7_116]
          refine arun_plan [(0, 1), (2, 1), (4, 1), (7, 1), (1, 2), (3, 2), (5, 1), (6, 2), (8, 2), (9, 1), (10, 0), (11, 1), (12, 0)] [0, 2, 4, 7, 1, 3, 5, 6, 8, 9, 11] mixed (by decide +kernel) (by decide +kernel) (by decide +kernel) ?_
          simp -implicitDefEqProofs only [ev_at (av := Tm.av) eI_27 hx (Tm.av_width x), Tm.av_agg, Tm.av_width, hbo, accV_agg, accV_width, Nat.zero_add, evb0, evb1, evb2, evb3, evb4, evb5, evb6, evb7, evb8, evb9, ↓evZ2, ↓evZ3, ↓Int.cast_ofNat_Int, implies_true, ne_eq, or_false, false_or, or_self, gt_iff_lt, isMut, aFn, List.contains, List.elem, aBox, aField, aLoad, sub, aNil, aPick, aExt, aFld, gd, noJunk, plainOp, aBuildSlice, aBuild, aFill, aParts, seqParts, fitAll, List.range', ↓reduceIte, reduceCtorEq, Nat.reduceEqDiff, Nat.reduceAdd, Nat.reduceLeDiff, Nat.reduceMul, Nat.reduceLT, Nat.reduceBEq, Int.reduceEq, tf_V7_116]
          refine callH_mk (IH x (List.mem_of_getElem? hx) _) ?_
          simp -implicitDefEqProofs only [Tm.av_agg, Tm.av_width, Tm.av_junk, hbo, accV_agg, accV_width, Nat.zero_add, evb0, evb1, evb2, evb3, evb4, evb5, evb6, evb7, evb8, evb9, ↓evZ2, ↓evZ3, ↓Int.cast_ofNat_Int, implies_true, ne_eq, or_false, false_or, or_self, gt_iff_lt, isMut, aFn, List.contains, List.elem, aBox, aField, aLoad, sub, aNil, aPick, aExt, aFld, gd, noJunk, plainOp, aBuildSlice, aBuild, aFill, aParts, seqParts, fitAll, List.range', ↓reduceIte, reduceCtorEq, Nat.reduceEqDiff, Nat.reduceAdd, Nat.reduceLeDiff, Nat.reduceMul, Nat.reduceLT, Nat.reduceBEq, Int.reduceEq, tf_V7_116]
          refine acc_append eI_27 eB_27 eZ_27 rfl rfl (by intro e he; simp only [List.mem_cons, List.not_mem_nil, or_false] at he; subst he; exact ⟨Tm.av_width _, Tm.av_store _⟩) (tm_widths _) hinv (by simp only [hlen', List.length_cons, List.length_nil]; omega) (by simp only [hlen', List.length_cons, List.length_nil]; omega) (fun b' hb' => ?_)
          rw [show (((ts.take i).map (Tm.mapv (subB bs))).map Tm.av) ++ [((Tm.mapv (subB bs)) x).av] = ((ts.take (i + 1)).map (Tm.mapv (subB bs))).map Tm.av by rw [htk]; simp] at hb' ⊢
          obtain ⟨g1, g2, g3⟩ := kidS_set hb'
          simp only [List.cons_append, List.nil_append] at g1 g3
          simp -implicitDefEqProofs only [g3, accV_cells, accV_store, setCells, Nat.le_refl, g1, hw, evb0, evb1, evb2, evb3, evb4, evb5, evb6, evb7, evb8, evb9, ↓evZ2, ↓evZ3, ↓Int.cast_ofNat_Int, implies_true, ne_eq, or_false, false_or, or_self, gt_iff_lt, isMut, aFn, List.contains, List.elem, aBox, aField, aLoad, sub, aNil, aPick, aExt, aFld, gd, noJunk, plainOp, aBuildSlice, aBuild, aFill, aParts, seqParts, fitAll, List.range', ↓reduceIte, reduceCtorEq, Nat.reduceEqDiff, Nat.reduceAdd, Nat.reduceLeDiff, Nat.reduceMul, Nat.reduceLT, Nat.reduceBEq, Int.reduceEq, tf_V7_116]
          exact ⟨b', g2, LessL.mk (by simp -implicitDefEqProofs only [evb0, evb1, evb2, evb3, evb4, evb5, evb6, evb7, evb8, evb9, ↓evZ2, ↓evZ3, ↓Int.cast_ofNat_Int, implies_true, ne_eq, or_false, false_or, or_self, gt_iff_lt, isMut, aFn, List.contains, List.elem, aBox, aField, aLoad, sub, aNil, aPick, aExt, aFld, gd, noJunk, plainOp, aBuildSlice, aBuild, aFill, aParts, seqParts, fitAll, List.range', ↓reduceIte, reduceCtorEq, Nat.reduceEqDiff, Nat.reduceAdd, Nat.reduceLeDiff, Nat.reduceMul, Nat.reduceLT, Nat.reduceBEq, Int.reduceEq, tf_V7_116])⟩
        have hbo := kidS_c hinv
        rw [List.take_length] at hinv hbo ⊢
        simp -implicitDefEqProofs only [List.length_map, hge, evb0, evb1, evb2, evb3, evb4, evb5, evb6, evb7, evb8, evb9, ↓evZ2, ↓evZ3, ↓Int.cast_ofNat_Int, implies_true, ne_eq, or_false, false_or, or_self, gt_iff_lt, isMut, aFn, List.contains, List.elem, aBox, aField, aLoad, sub, aNil, aPick, aExt, aFld, gd, noJunk, plainOp, aBuildSlice, aBuild, aFill, aParts, seqParts, fitAll, List.range', ↓reduceIte, reduceCtorEq, Nat.reduceEqDiff, Nat.reduceAdd, Nat.reduceLeDiff, Nat.reduceMul, Nat.reduceLT, Nat.reduceBEq, Int.reduceEq, tf_V7_116]
        simp -implicitDefEqProofs only [hbo, evb0, evb1, evb2, evb3, evb4, evb5, evb6, evb7, evb8, evb9, ↓evZ2, ↓evZ3, ↓Int.cast_ofNat_Int, implies_true, ne_eq, or_false, false_or, or_self, gt_iff_lt, isMut, aFn, List.contains, List.elem, aBox, aField, aLoad, sub, aNil, aPick, aExt, aFld, gd, noJunk, plainOp, aBuildSlice, aBuild, aFill, aParts, seqParts, fitAll, List.range', ↓reduceIte, reduceCtorEq, Nat.reduceEqDiff, Nat.reduceAdd, Nat.reduceLeDiff, Nat.reduceMul, Nat.reduceLT, Nat.reduceBEq, Int.reduceEq, tf_V7_116]
        have h1 := kidS_ne hinv hS hb2c
        rw [Store.upd_same] at h1
        simp -implicitDefEqProofs only [h1, accV_store, accV_cells, setCells, Nat.le_refl, evb0, evb1, evb2, evb3, evb4, evb5, evb6, evb7, evb8, evb9, ↓evZ2, ↓evZ3, ↓Int.cast_ofNat_Int, implies_true, ne_eq, or_false, false_or, or_self, gt_iff_lt, isMut, aFn, List.contains, List.elem, aBox, aField, aLoad, sub, aNil, aPick, aExt, aFld, gd, noJunk, plainOp, aBuildSlice, aBuild, aFill, aParts, seqParts, fitAll, List.range', ↓reduceIte, reduceCtorEq, Nat.reduceEqDiff, Nat.reduceAdd, Nat.reduceLeDiff, Nat.reduceMul, Nat.reduceLT, Nat.reduceBEq, Int.reduceEq, tf_V7_116]
        obtain ⟨h2, h3⟩ := kidS_upd (o := .cells [AV.int .i64 k, AV.int .i64 n, AV.str s, accV 4 b ((ts.map (Tm.mapv (subB bs))).map Tm.av)]) hinv hS hb2c
        refine ⟨b, _, _, h2, h3, tm_junk _, ⟨4, tm_widths _⟩, ?_, (((Drops.refl _).upd hb2).upd hn2).upd hb2⟩
        simp only [fin_agg, List.map_cons, List.map_nil, fin_int, fin_str, accV_fin, ← Tm.av_mk]
        exact l3_none h hs0 hts0 hf
    · simp only [decide_eq_false_iff_not] at h
      simp -implicitDefEqProofs only [evb0, evb1, evb2, evb3, evb4, evb5, evb6, evb7, evb8, evb9, ↓evZ2, ↓evZ3, ↓Int.cast_ofNat_Int, implies_true, ne_eq, or_false, false_or, or_self, gt_iff_lt, isMut, aFn, List.contains, List.elem, aBox, aField, aLoad, sub, aNil, aPick, aExt, aFld, gd, noJunk, plainOp, aBuildSlice, aBuild, aFill, aParts, seqParts, fitAll, List.range', ↓reduceIte, reduceCtorEq, Nat.reduceEqDiff, Nat.reduceAdd, Nat.reduceLeDiff, Nat.reduceMul, Nat.reduceLT, Nat.reduceBEq, Int.reduceEq, tf_V7_116]
      intro c hc
      have hne : c ≠ b2 := by rintro rfl; rw [Store.upd_same] at hc; cases hc
      have hn2 : st c = none := by rw [Store.upd_ne st _ hne] at hc; exact hc
      have hb2c : b2 ≠ c := Ne.symm hne
      have hS : (st.upd b2 (.cells [AV.int .i64 0, AV.int .i64 0, AV.str ⟨#[]⟩, AV.fslice []])) b2 ≠ none := by rw [Store.upd_same]; simp
      refine arun_each (σ := Nat) [1000000] [1, 2, 4, 7] ts (fun i b => (((ts.take i).map (Tm.mapv (subB bs))).map Tm.av ≠ [] → (Store.upd (st.upd b2 (.cells [AV.int .i64 0, AV.int .i64 0, AV.str ⟨#[]⟩, AV.fslice []])) c (.cells ([AV.int .i64 k, AV.int .i64 n, AV.str s] ++ [accV 4 b (((ts.take i).map (Tm.mapv (subB bs))).map Tm.av)]))) b = none)) (fun i b => [(8, .int .i64 i)]) (fun i b => kidS (st.upd b2 (.cells [AV.int .i64 0, AV.int .i64 0, AV.str ⟨#[]⟩, AV.fslice []])) c b [AV.int .i64 k, AV.int .i64 n, AV.str s] (((ts.take i).map (Tm.mapv (subB bs))).map Tm.av)) (by decide +kernel)
        ⟨0, fun h => absurd rfl h, LessL.mk (by simp -implicitDefEqProofs only [List.length_map, evb0, evb1, evb2, evb3, evb4, evb5, evb6, evb7, evb8, evb9, ↓evZ2, ↓evZ3, ↓Int.cast_ofNat_Int, implies_true, ne_eq, or_false, false_or, or_self, gt_iff_lt, isMut, aFn, List.contains, List.elem, aBox, aField, aLoad, sub, aNil, aPick, aExt, aFld, gd, noJunk, plainOp, aBuildSlice, aBuild, aFill, aParts, seqParts, fitAll, List.range', ↓reduceIte, reduceCtorEq, Nat.reduceEqDiff, Nat.reduceAdd, Nat.reduceLeDiff, Nat.reduceMul, Nat.reduceLT, Nat.reduceBEq, Int.reduceEq, tf_V7_116])⟩ (fun i x b hx hlt hlt' hdr hinv => ?_) (fun b hge hinv => ?_)
      case refine_1 =>
        have hw := wrap64 (n := (i : Int) + 1) (by omega) (by omega)
        have hlen' : (((ts.take i).map (Tm.mapv (subB bs))).map Tm.av).length = i := by simp only [List.length_map, List.length_take]; omega
        have htk : (ts.take (i + 1)).map (Tm.mapv (subB bs)) = (ts.take i).map (Tm.mapv (subB bs)) ++ [(Tm.mapv (subB bs)) x] := by rw [List.take_add_one, hx]; simp
        have hbo := kidS_c hinv
        simp -implicitDefEqProofs only [List.length_map, hlt', ev_at (av := Tm.av) eI_27 hx (Tm.av_width x), Nat.zero_add, evb0, evb1, evb2, evb3, evb4, evb5, evb6, evb7, evb8, evb9, ↓evZ2, ↓evZ3, ↓Int.cast_ofNat_Int, implies_true, ne_eq, or_false, false_or, or_self, gt_iff_lt, isMut, aFn, List.contains, List.elem, aBox, aField, aLoad, sub, aNil, aPick, aExt, aFld, gd, noJunk, plainOp, aBuildSlice, aBuild, aFill, aParts, seqParts, fitAll, List.range', ↓reduceIte, reduceCtorEq, Nat.reduceEqDiff, Nat.reduceAdd, Nat.reduceLeDiff, Nat.reduceMul, Nat.reduceLT, Nat.reduceBEq, Int.reduceEq, tf_V7_116]
        refine arun_plan [(0, 1), (2, 1), (4, 1), (7, 1), (1, 2), (3, 2), (5, 1), (6, 2), (8, 2), (9, 1), (10, 0), (11, 1), (12, 0)] [0, 2, 4, 7, 1, 3, 5, 6, 8, 9, 11] mixed (by decide +kernel) (by decide +kernel) (by decide +kernel) ?_
        simp -implicitDefEqProofs only [ev_at (av := Tm.av) eI_27 hx (Tm.av_width x), Tm.av_agg, Tm.av_width, hbo, accV_agg, accV_width, Nat.zero_add, evb0, evb1, evb2, evb3, evb4, evb5, evb6, evb7, evb8, evb9, ↓evZ2, ↓evZ3, ↓Int.cast_ofNat_Int, implies_true, ne_eq, or_false, false_or, or_self, gt_iff_lt, isMut, aFn, List.contains, List.elem, aBox, aField, aLoad, sub, aNil, aPick, aExt, aFld, gd, noJunk, plainOp, aBuildSlice, aBuild, aFill, aParts, seqParts, fitAll, List.range', ↓reduceIte, reduceCtorEq, Nat.reduceEqDiff, Nat.reduceAdd, Nat.reduceLeDiff, Nat.reduceMul, Nat.reduceLT, Nat.reduceBEq, Int.reduceEq, tf_V7_116]
        refine callH_mk (IH x (List.mem_of_getElem? hx) _) ?_
        simp -implicitDefEqProofs only [Tm.av_agg, Tm.av_width, Tm.av_junk, hbo, accV_agg, accV_width, Nat.zero_add, evb0, evb1, evb2, evb3, evb4, evb5, evb6, evb7, evb8, evb9, ↓evZ2, ↓evZ3, ↓Int.cast_ofNat_Int, implies_true, ne_eq, or_false, false_or, or_self, gt_iff_lt, isMut, aFn, List.contains, List.elem, aBox, aField, aLoad, sub, aNil, aPick, aExt, aFld, gd, noJunk, plainOp, aBuildSlice, aBuild, aFill, aParts, seqParts, fitAll, List.range', ↓reduceIte, reduceCtorEq, Nat.reduceEqDiff, Nat.reduceAdd, Nat.reduceLeDiff, Nat.reduceMul, Nat.reduceLT, Nat.reduceBEq, Int.reduceEq, tf_V7_116]
        refine acc_append eI_27 eB_27 eZ_27 rfl rfl (by intro e he; simp only [List.mem_cons, List.not_mem_nil, or_false] at he; subst he; exact ⟨Tm.av_width _, Tm.av_store _⟩) (tm_widths _) hinv (by simp only [hlen', List.length_cons, List.length_nil]; omega) (by simp only [hlen', List.length_cons, List.length_nil]; omega) (fun b' hb' => ?_)
        rw [show (((ts.take i).map (Tm.mapv (subB bs))).map Tm.av) ++ [((Tm.mapv (subB bs)) x).av] = ((ts.take (i + 1)).map (Tm.mapv (subB bs))).map Tm.av by rw [htk]; simp] at hb' ⊢
        obtain ⟨g1, g2, g3⟩ := kidS_set hb'
        simp only [List.cons_append, List.nil_append] at g1 g3
        simp -implicitDefEqProofs only [g3, accV_cells, accV_store, setCells, Nat.le_refl, g1, hw, evb0, evb1, evb2, evb3, evb4, evb5, evb6, evb7, evb8, evb9, ↓evZ2, ↓evZ3, ↓Int.cast_ofNat_Int, implies_true, ne_eq, or_false, false_or, or_self, gt_iff_lt, isMut, aFn, List.contains, List.elem, aBox, aField, aLoad, sub, aNil, aPick, aExt, aFld, gd, noJunk, plainOp, aBuildSlice, aBuild, aFill, aParts, seqParts, fitAll, List.range', ↓reduceIte, reduceCtorEq, Nat.reduceEqDiff, Nat.reduceAdd, Nat.reduceLeDiff, Nat.reduceMul, Nat.reduceLT, Nat.reduceBEq, Int.reduceEq, tf_V7_116]
        exact ⟨b', g2, LessL.mk (by simp -implicitDefEqProofs only [evb0, evb1, evb2, evb3, evb4, evb5, evb6, evb7, evb8, evb9, ↓evZ2, ↓evZ3, ↓Int.cast_ofNat_Int, implies_true, ne_eq, or_false, false_or, or_self, gt_iff_lt, isMut, aFn, List.contains, List.elem, aBox, aField, aLoad, sub, aNil, aPick, aExt, aFld, gd, noJunk, plainOp, aBuildSlice, aBuild, aFill, aParts, seqParts, fitAll, List.range', ↓reduceIte, reduceCtorEq, Nat.reduceEqDiff, Nat.reduceAdd, Nat.reduceLeDiff, Nat.reduceMul, Nat.reduceLT, Nat.reduceBEq, Int.reduceEq, tf_V7_116])⟩
      have hbo := kidS_c hinv
      rw [List.take_length] at hinv hbo ⊢
      simp -implicitDefEqProofs only [List.length_map, hge, evb0, evb1, evb2, evb3, evb4, evb5, evb6, evb7, evb8, evb9, ↓evZ2, ↓evZ3, ↓Int.cast_ofNat_Int, implies_true, ne_eq, or_false, false_or, or_self, gt_iff_lt, isMut, aFn, List.contains, List.elem, aBox, aField, aLoad, sub, aNil, aPick, aExt, aFld, gd, noJunk, plainOp, aBuildSlice, aBuild, aFill, aParts, seqParts, fitAll, List.range', ↓reduceIte, reduceCtorEq, Nat.reduceEqDiff, Nat.reduceAdd, Nat.reduceLeDiff, Nat.reduceMul, Nat.reduceLT, Nat.reduceBEq, Int.reduceEq, tf_V7_116]
      simp -implicitDefEqProofs only [hbo, evb0, evb1, evb2, evb3, evb4, evb5, evb6, evb7, evb8, evb9, ↓evZ2, ↓evZ3, ↓Int.cast_ofNat_Int, implies_true, ne_eq, or_false, false_or, or_self, gt_iff_lt, isMut, aFn, List.contains, List.elem, aBox, aField, aLoad, sub, aNil, aPick, aExt, aFld, gd, noJunk, plainOp, aBuildSlice, aBuild, aFill, aParts, seqParts, fitAll, List.range', ↓reduceIte, reduceCtorEq, Nat.reduceEqDiff, Nat.reduceAdd, Nat.reduceLeDiff, Nat.reduceMul, Nat.reduceLT, Nat.reduceBEq, Int.reduceEq, tf_V7_116]
      have h1 := kidS_ne hinv hS hb2c
      rw [Store.upd_same] at h1
      simp -implicitDefEqProofs only [h1, accV_store, accV_cells, setCells, Nat.le_refl, evb0, evb1, evb2, evb3, evb4, evb5, evb6, evb7, evb8, evb9, ↓evZ2, ↓evZ3, ↓Int.cast_ofNat_Int, implies_true, ne_eq, or_false, false_or, or_self, gt_iff_lt, isMut, aFn, List.contains, List.elem, aBox, aField, aLoad, sub, aNil, aPick, aExt, aFld, gd, noJunk, plainOp, aBuildSlice, aBuild, aFill, aParts, seqParts, fitAll, List.range', ↓reduceIte, reduceCtorEq, Nat.reduceEqDiff, Nat.reduceAdd, Nat.reduceLeDiff, Nat.reduceMul, Nat.reduceLT, Nat.reduceBEq, Int.reduceEq, tf_V7_116]
      obtain ⟨h2, h3⟩ := kidS_upd (o := .cells [AV.int .i64 k, AV.int .i64 n, AV.str s, accV 4 b ((ts.map (Tm.mapv (subB bs))).map Tm.av)]) hinv hS hb2c
      refine ⟨b, _, _, h2, h3, tm_junk _, ⟨4, tm_widths _⟩, ?_, (((Drops.refl _).upd hb2).upd hn2).upd hb2⟩
      simp only [fin_agg, List.map_cons, List.map_nil, fin_int, fin_str, accV_fin, ← Tm.av_mk]
      rw [Tm.mapv_mk _ h]
termination_by t => SizeOf.sizeOf t
decreasing_by have := List.sizeOf_lt_of_mem hx; simp only [Tm.mk.sizeOf_spec]; omega
end Go.AW


/- Bindings applied, as a whole. -/
namespace Go.AW
open Go.Proofs.Try
set_option linter.unusedSimpArgs false
set_option maxRecDepth 100000

/-- Bindings applied, if all is valid. -/
def appB (t : Tm) (bs : List Bd) : Option Tm :=
  if t.valid = true ∧ (bs.all fun b => b.2.valid) = true ∧ (t.mapv (subB bs)).valid = true then some (t.mapv (subB bs)) else none
theorem subB_small {bs : List Bd} (h : ∀ b ∈ bs, b.2.small = true) (n : Int) : (subB bs n).small = true := by
  unfold subB
  have : ∀ l : List Bd, (∀ b ∈ l, b.2.small = true) → ∀ x, findB l n = some x → x.small = true := by
    intro l
    induction l with
    | nil => intro _ x h; cases h
    | cons y l ih =>
      obtain ⟨m, t⟩ := y
      intro hl x h
      simp only [findB] at h
      split at h
      · cases h; exact hl (m, _) (by simp)
      · exact ih (fun b hb => hl b (by simp [hb])) x h
  cases hf : findB bs n with
  | none => rfl
  | some x => exact this bs h x hf
theorem all_small {bs : List Bd} (h : (bs.all fun b => b.2.valid) = true) : ∀ b ∈ bs, b.2.small = true := fun b hb => Tm.valid_small (List.all_eq_true.1 h b hb)
theorem optAv_soft (x : Option Tm) : (optAv x).soft = optAv x := by cases x <;> simp only [optAv, soft_tup, List.map_cons, List.map_nil, Tm.soft, soft_bool]

theorem tf_V8_28 : (type_of% tI_2) ∧ (type_of% zI_2) ∧ (type_of% Go.Proofs.Try.underlying2) ∧ (type_of% tI_3) ∧ (type_of% zI_3) ∧ (type_of% Go.Proofs.Try.underlying3) ∧ (type_of% tI_4) ∧ (type_of% zI_4) ∧ (type_of% Go.Proofs.Try.underlying4) ∧ (type_of% tI_5) ∧ (type_of% zI_5) ∧ (type_of% Go.Proofs.Try.underlying5) ∧ (type_of% tI_6) ∧ (type_of% zI_6) ∧ (type_of% Go.Proofs.Try.underlying6) ∧ (type_of% tI_7) ∧ (type_of% zI_7) ∧ (type_of% fI_7_0) ∧ (type_of% fI_7_1) ∧ (type_of% fI_7_2) ∧ (type_of% fI_7_3) ∧ (type_of% bI_7) ∧ (type_of% tI_8) ∧ (type_of% zI_8) ∧ (type_of% fI_8_0) ∧ (type_of% fI_8_1) ∧ (type_of% fI_8_2) ∧ (type_of% fI_8_3) ∧ (type_of% bI_8) ∧ (type_of% tI_11) ∧ (type_of% zI_11) ∧ (type_of% Go.Proofs.Try.underlying11) ∧ (type_of% tI_12) ∧ (type_of% zI_12) ∧ (type_of% Go.Proofs.Try.underlying12) ∧ (type_of% tI_15) ∧ (type_of% zI_15) ∧ (type_of% tI_16) ∧ (type_of% zI_16) ∧ (type_of% tI_17) ∧ (type_of% zI_17) ∧ (type_of% tI_18) ∧ (type_of% zI_18) ∧ (type_of% fI_18_0) ∧ (type_of% bI_18) ∧ (type_of% tI_19) ∧ (type_of% zI_19) ∧ (type_of% fI_19_0) ∧ (type_of% bI_19) ∧ (type_of% tI_24) ∧ (type_of% zI_24) ∧ (type_of% fI_24_0) ∧ (type_of% bI_24) ∧ (type_of% tI_27) ∧ (type_of% zI_27) ∧ (type_of% eI_27) ∧ (type_of% eB_27) ∧ (type_of% eZ_27) ∧ (type_of% Go.Proofs.Try.underlying27) ∧ (type_of% tI_41) ∧ (type_of% zI_41) ∧ (type_of% fI_41_0) ∧ (type_of% fI_41_1) ∧ (type_of% fI_41_2) ∧ (type_of% fI_41_3) ∧ (type_of% bI_41) ∧ (type_of% tI_44) ∧ (type_of% zI_44) ∧ (type_of% eI_44) ∧ (type_of% eB_44) ∧ (type_of% eZ_44) ∧ (type_of% Go.Proofs.Try.underlying44) ∧ (type_of% tI_75) ∧ (type_of% zI_75) ∧ (type_of% fI_75_0) ∧ (type_of% fI_75_1) ∧ (type_of% fI_75_2) ∧ (type_of% fI_75_3) ∧ (type_of% fI_75_4) ∧ (type_of% fI_75_5) ∧ (type_of% bI_75) := ⟨tI_2, zI_2, Go.Proofs.Try.underlying2, tI_3, zI_3, Go.Proofs.Try.underlying3, tI_4, zI_4, Go.Proofs.Try.underlying4, tI_5, zI_5, Go.Proofs.Try.underlying5, tI_6, zI_6, Go.Proofs.Try.underlying6, tI_7, zI_7, fI_7_0, fI_7_1, fI_7_2, fI_7_3, bI_7, tI_8, zI_8, fI_8_0, fI_8_1, fI_8_2, fI_8_3, bI_8, tI_11, zI_11, Go.Proofs.Try.underlying11, tI_12, zI_12, Go.Proofs.Try.underlying12, tI_15, zI_15, tI_16, zI_16, tI_17, zI_17, tI_18, zI_18, fI_18_0, bI_18, tI_19, zI_19, fI_19_0, bI_19, tI_24, zI_24, fI_24_0, bI_24, tI_27, zI_27, eI_27, eB_27, eZ_27, Go.Proofs.Try.underlying27, tI_41, zI_41, fI_41_0, fI_41_1, fI_41_2, fI_41_3, bI_41, tI_44, zI_44, eI_44, eB_44, eZ_44, Go.Proofs.Try.underlying44, tI_75, zI_75, fI_75_0, fI_75_1, fI_75_2, fI_75_3, fI_75_4, fI_75_5, bI_75⟩
theorem c_impl_ApplyBinds (t : Tm) (bs : List Bd) (st : Store) : ACalls prog 28 [t.av, .slice (bs.map bdAv)] st (fun r st' => r = optAv (appB t bs) ∧ st' = st) := by
  refine ACalls.done ?_
  refine acalls_fit [1000000] func28 ntmps28 rfl rfl (by kernel_rfl) (by decide +kernel) (by show 2 ≤ _; decide +kernel) ?_
  intro _
  simp -implicitDefEqProofs only [setCells, evb0, evb1, evb2, evb3, evb4, evb5, evb6, evb7, evb8, evb9, ↓evZ2, ↓evZ3, ↓Int.cast_ofNat_Int, implies_true, ne_eq, or_false, false_or, or_self, gt_iff_lt, isMut, aFn, List.contains, List.elem, aBox, aField, aLoad, sub, aNil, aPick, aExt, aFld, gd, noJunk, plainOp, aBuildSlice, aBuild, aFill, aParts, seqParts, fitAll, List.range', ↓reduceIte, reduceCtorEq, Nat.reduceEqDiff, Nat.reduceAdd, Nat.reduceLeDiff, Nat.reduceMul, Nat.reduceLT, Nat.reduceBEq, Int.reduceEq, tf_V8_28]
  intro b hb
  have hend : ∀ o, ((AV.tup [.agg [.int .i64 0, .int .i64 0, .str ⟨#[]⟩, .fslice []], .bool false]).soft = optAv none) ∧ Drops (st.upd b o) st := fun o => ⟨by simp only [optAv, Tm.zero, Tm.av_mk, soft_agg, soft_tup, soft_int, soft_bool, soft_str, soft_slice, soft_fslice, soft_ptr, soft_pptr, soft_map, soft_mslice, Tm.soft, List.map_cons, List.map_nil], (Drops.refl _).upd hb⟩
  refine (c_impl_TermValid t _).to ?_
  simp -implicitDefEqProofs only [setCells, evb0, evb1, evb2, evb3, evb4, evb5, evb6, evb7, evb8, evb9, ↓evZ2, ↓evZ3, ↓Int.cast_ofNat_Int, implies_true, ne_eq, or_false, false_or, or_self, gt_iff_lt, isMut, aFn, List.contains, List.elem, aBox, aField, aLoad, sub, aNil, aPick, aExt, aFld, gd, noJunk, plainOp, aBuildSlice, aBuild, aFill, aParts, seqParts, fitAll, List.range', ↓reduceIte, reduceCtorEq, Nat.reduceEqDiff, Nat.reduceAdd, Nat.reduceLeDiff, Nat.reduceMul, Nat.reduceLT, Nat.reduceBEq, Int.reduceEq, tf_V8_28]
  refine opsG_split (fun h => ?_) (fun h => ?_)
  case refine_2 =>
    simp only [Bool.not_false, Bool.not_eq_true'] at h
    simp -implicitDefEqProofs only [h, setCells, evb0, evb1, evb2, evb3, evb4, evb5, evb6, evb7, evb8, evb9, ↓evZ2, ↓evZ3, ↓Int.cast_ofNat_Int, implies_true, ne_eq, or_false, false_or, or_self, gt_iff_lt, isMut, aFn, List.contains, List.elem, aBox, aField, aLoad, sub, aNil, aPick, aExt, aFld, gd, noJunk, plainOp, aBuildSlice, aBuild, aFill, aParts, seqParts, fitAll, List.range', ↓reduceIte, reduceCtorEq, Nat.reduceEqDiff, Nat.reduceAdd, Nat.reduceLeDiff, Nat.reduceMul, Nat.reduceLT, Nat.reduceBEq, Int.reduceEq, tf_V8_28]
    rw [appB, if_neg (by simp [h])]
    exact hend _
  simp only [Bool.not_eq_false'] at h
  simp -implicitDefEqProofs only [h, setCells, evb0, evb1, evb2, evb3, evb4, evb5, evb6, evb7, evb8, evb9, ↓evZ2, ↓evZ3, ↓Int.cast_ofNat_Int, implies_true, ne_eq, or_false, false_or, or_self, gt_iff_lt, isMut, aFn, List.contains, List.elem, aBox, aField, aLoad, sub, aNil, aPick, aExt, aFld, gd, noJunk, plainOp, aBuildSlice, aBuild, aFill, aParts, seqParts, fitAll, List.range', ↓reduceIte, reduceCtorEq, Nat.reduceEqDiff, Nat.reduceAdd, Nat.reduceLeDiff, Nat.reduceMul, Nat.reduceLT, Nat.reduceBEq, Int.reduceEq, tf_V8_28]
  refine (c_ContainsFuncBd bs _ [] (fun b => !b.2.valid) _ fun x _ => c_ApplyBinds_1 x _).to ?_
  simp -implicitDefEqProofs only [h, setCells, evb0, evb1, evb2, evb3, evb4, evb5, evb6, evb7, evb8, evb9, ↓evZ2, ↓evZ3, ↓Int.cast_ofNat_Int, implies_true, ne_eq, or_false, false_or, or_self, gt_iff_lt, isMut, aFn, List.contains, List.elem, aBox, aField, aLoad, sub, aNil, aPick, aExt, aFld, gd, noJunk, plainOp, aBuildSlice, aBuild, aFill, aParts, seqParts, fitAll, List.range', ↓reduceIte, reduceCtorEq, Nat.reduceEqDiff, Nat.reduceAdd, Nat.reduceLeDiff, Nat.reduceMul, Nat.reduceLT, Nat.reduceBEq, Int.reduceEq, tf_V8_28]
  refine cond_split (fun h2 => ?_) (fun h2 => ?_)
  · simp -implicitDefEqProofs only [setCells, evb0, evb1, evb2, evb3, evb4, evb5, evb6, evb7, evb8, evb9, ↓evZ2, ↓evZ3, ↓Int.cast_ofNat_Int, implies_true, ne_eq, or_false, false_or, or_self, gt_iff_lt, isMut, aFn, List.contains, List.elem, aBox, aField, aLoad, sub, aNil, aPick, aExt, aFld, gd, noJunk, plainOp, aBuildSlice, aBuild, aFill, aParts, seqParts, fitAll, List.range', ↓reduceIte, reduceCtorEq, Nat.reduceEqDiff, Nat.reduceAdd, Nat.reduceLeDiff, Nat.reduceMul, Nat.reduceLT, Nat.reduceBEq, Int.reduceEq, tf_V8_28]
    rw [appB, if_neg (by rw [← any_not_all, h2]; simp)]
    exact hend _
  have hall : (bs.all fun b => b.2.valid) = true := by rw [← any_not_all, h2]; rfl
  have hsm := all_small hall
  simp -implicitDefEqProofs only [setCells, evb0, evb1, evb2, evb3, evb4, evb5, evb6, evb7, evb8, evb9, ↓evZ2, ↓evZ3, ↓Int.cast_ofNat_Int, implies_true, ne_eq, or_false, false_or, or_self, gt_iff_lt, isMut, aFn, List.contains, List.elem, aBox, aField, aLoad, sub, aNil, aPick, aExt, aFld, gd, noJunk, plainOp, aBuildSlice, aBuild, aFill, aParts, seqParts, fitAll, List.range', ↓reduceIte, reduceCtorEq, Nat.reduceEqDiff, Nat.reduceAdd, Nat.reduceLeDiff, Nat.reduceMul, Nat.reduceLT, Nat.reduceBEq, Int.reduceEq, tf_V8_28]
  refine (c_mapVars (subB bs) _ [.pptr (.slice (bs.map bdAv))] rfl t _ (Tm.valid_small h) (fun n _ s => c_ApplyBinds_2 bs n s)).to ?_
  simp -implicitDefEqProofs only [setCells, evb0, evb1, evb2, evb3, evb4, evb5, evb6, evb7, evb8, evb9, ↓evZ2, ↓evZ3, ↓Int.cast_ofNat_Int, implies_true, ne_eq, or_false, false_or, or_self, gt_iff_lt, isMut, aFn, List.contains, List.elem, aBox, aField, aLoad, sub, aNil, aPick, aExt, aFld, gd, noJunk, plainOp, aBuildSlice, aBuild, aFill, aParts, seqParts, fitAll, List.range', ↓reduceIte, reduceCtorEq, Nat.reduceEqDiff, Nat.reduceAdd, Nat.reduceLeDiff, Nat.reduceMul, Nat.reduceLT, Nat.reduceBEq, Int.reduceEq, tf_V8_28]
  refine (o_own (t.mapv (subB bs)) _ (Tm.mapv_small (subB_small hsm) t (Tm.valid_small h))).made.to ?_
  simp -implicitDefEqProofs only [setCells, evb0, evb1, evb2, evb3, evb4, evb5, evb6, evb7, evb8, evb9, ↓evZ2, ↓evZ3, ↓Int.cast_ofNat_Int, implies_true, ne_eq, or_false, false_or, or_self, gt_iff_lt, isMut, aFn, List.contains, List.elem, aBox, aField, aLoad, sub, aNil, aPick, aExt, aFld, gd, noJunk, plainOp, aBuildSlice, aBuild, aFill, aParts, seqParts, fitAll, List.range', ↓reduceIte, reduceCtorEq, Nat.reduceEqDiff, Nat.reduceAdd, Nat.reduceLeDiff, Nat.reduceMul, Nat.reduceLT, Nat.reduceBEq, Int.reduceEq, tf_V8_28]
  refine (c_impl_TermValid _ _).to ?_
  simp -implicitDefEqProofs only [setCells, evb0, evb1, evb2, evb3, evb4, evb5, evb6, evb7, evb8, evb9, ↓evZ2, ↓evZ3, ↓Int.cast_ofNat_Int, implies_true, ne_eq, or_false, false_or, or_self, gt_iff_lt, isMut, aFn, List.contains, List.elem, aBox, aField, aLoad, sub, aNil, aPick, aExt, aFld, gd, noJunk, plainOp, aBuildSlice, aBuild, aFill, aParts, seqParts, fitAll, List.range', ↓reduceIte, reduceCtorEq, Nat.reduceEqDiff, Nat.reduceAdd, Nat.reduceLeDiff, Nat.reduceMul, Nat.reduceLT, Nat.reduceBEq, Int.reduceEq, tf_V8_28]
  refine cond_split (fun h3 => ?_) (fun h3 => ?_)
  · simp -implicitDefEqProofs only [setCells, evb0, evb1, evb2, evb3, evb4, evb5, evb6, evb7, evb8, evb9, ↓evZ2, ↓evZ3, ↓Int.cast_ofNat_Int, implies_true, ne_eq, or_false, false_or, or_self, gt_iff_lt, isMut, aFn, List.contains, List.elem, aBox, aField, aLoad, sub, aNil, aPick, aExt, aFld, gd, noJunk, plainOp, aBuildSlice, aBuild, aFill, aParts, seqParts, fitAll, List.range', ↓reduceIte, reduceCtorEq, Nat.reduceEqDiff, Nat.reduceAdd, Nat.reduceLeDiff, Nat.reduceMul, Nat.reduceLT, Nat.reduceBEq, Int.reduceEq, tf_V8_28]
    simp only [Bool.not_eq_true'] at h3
    rw [appB, if_neg (by simp [h3])]
    exact hend _
  · simp -implicitDefEqProofs only [setCells, evb0, evb1, evb2, evb3, evb4, evb5, evb6, evb7, evb8, evb9, ↓evZ2, ↓evZ3, ↓Int.cast_ofNat_Int, implies_true, ne_eq, or_false, false_or, or_self, gt_iff_lt, isMut, aFn, List.contains, List.elem, aBox, aField, aLoad, sub, aNil, aPick, aExt, aFld, gd, noJunk, plainOp, aBuildSlice, aBuild, aFill, aParts, seqParts, fitAll, List.range', ↓reduceIte, reduceCtorEq, Nat.reduceEqDiff, Nat.reduceAdd, Nat.reduceLeDiff, Nat.reduceMul, Nat.reduceLT, Nat.reduceBEq, Int.reduceEq, tf_V8_28]
    simp only [Bool.not_eq_false'] at h3
    rw [appB, if_pos ⟨h, hall, h3⟩]
    exact ⟨optAv_soft (some _), (Drops.refl _).upd hb⟩
end Go.AW


/- Variables of terms: what the program's functions return. -/
namespace Go.AW
open Go.Proofs.Try
set_option linter.unusedSimpArgs false
set_option maxRecDepth 100000

/-- What a list of numbers that grows has become. -/
def Grown (st : Store) (l : List Int) (r : AV) (st' : Store) : Prop := ∃ b', r = accV 1 b' (l.map iv) ∧ st' = accS st b' (l.map iv) ∧ (l.map iv ≠ [] → st b' = none)

end Go.AW
