
/- Valid terms: what the program's functions return. -/
import Derived.Test.YtcookjmgjbhkiaaGs6
namespace Go.AW
open Go.Proofs.Try
set_option linter.unusedSimpArgs false
set_option maxRecDepth 100000

theorem c_scan : ∀ (t : Tm) (d c : Int) (b : Nat) (st : Store), st b = some (.cells [.int .i64 c]) → 0 ≤ c → c ≤ 120 → 0 ≤ d → d ≤ 31 → ACalls prog 89 [t.av, .int .i64 d, .ptr b 0] st (scanned (t.shape (31 - d)) c t.nodes b st)
  | .mk k n s ts, d, c, b, st, hb, hc0, hc1, hd0, hd1 => by
    have hk := fun (st : Store) (hb : st b = some (.cells [.int .i64 (c + 1)])) (h1 : c + 1 ≤ 120) (h2 : d ≤ 30) => c_ContainsScan ts d (c + 1) b st (by omega) (by omega) hb (by omega) h1 fun x hx c st hb hc0 hc1 => by
      have := c_scan x (d + 1) c b st hb hc0 hc1 (by omega) (by omega)
      rw [show (31 : Int) - (d + 1) = 30 - d by omega] at this
      exact this
    have hw := wrap64 (n := c + 1) (by omega) (by omega)
    unfold scanned
    rw [Tm.nodes_mk, Tm.shape_mk]
    refine acalls_fit [] func89 ntmps89 rfl rfl (by kernel_rfl) (by decide +kernel) (by show 3 ≤ _; decide +kernel) ?_
    simp only [Tm.av_mk, fitsL, AV.fits, and_true, List.length_map]
    intro ⟨_, _, _, hl, _⟩
    simp -implicitDefEqProofs only [hb, setCells, hw, evb0, evb1, evb2, evb3, evb4, evb5, evb6, implies_true, ne_eq, isMut, aFn, List.contains, List.elem, aBox, aField, aLoad, sub, aLen, aNil, aPick, aExt, aFld, gd, noJunk, plainOp, aBuildSlice, aParts, seqParts, fitAll, List.range', ↓reduceIte, reduceCtorEq, Nat.reduceEqDiff, Nat.reduceAdd, Nat.reduceLeDiff, Nat.reduceMul, Nat.reduceLT, Nat.reduceBEq, tI_2, zI_2, underlying2, tI_3, zI_3, underlying3, tI_4, zI_4, underlying4, tI_5, zI_5, underlying5, tI_6, zI_6, underlying6, tI_7, zI_7, fI_7_0, fI_7_1, fI_7_2, fI_7_3, bI_7, tI_8, zI_8, fI_8_0, fI_8_1, fI_8_2, fI_8_3, bI_8, tI_9, zI_9, underlying9, tI_10, zI_10, underlying10, tI_11, zI_11, underlying11, tI_12, zI_12, underlying12, tI_13, zI_13, fI_13_0, fI_13_1, bI_13, tI_25, zI_25, eI_25, eB_25, eZ_25, underlying25, tI_26, zI_26, fI_26_0, fI_26_1, fI_26_2, bI_26, tI_30, zI_30, eI_30, eB_30, eZ_30, underlying30, tI_32, zI_32, fI_32_0, fI_32_1, fI_32_2, fI_32_3, bI_32, tI_34, zI_34, fI_34_0, fI_34_1, fI_34_2, bI_34, tI_35, zI_35, fI_35_0, fI_35_1, fI_35_2, bI_35, tI_41, zI_41, eI_41, eB_41, eZ_41, underlying41, tI_70, zI_70, tI_73, zI_73, aI_73]
    have hL : (ts.map Tm.av).length = ts.length := List.length_map _
    have hfin : ∀ (v : Bool), v = (decide (c + ((1 + sumL Tm.nodes ts : Nat) : Int) ≤ 120) && (decide (1 ≤ 31 - d) && ownOk k n s ts.length && ts.all fun t => t.shape (31 - d - 1))) → (v = true → ts = []) →
        ∃ c', AV.bool v = AV.bool (decide (c + ((1 + sumL Tm.nodes ts : Nat) : Int) ≤ 120) && (decide (1 ≤ 31 - d) && ownOk k n s ts.length && ts.all fun t => t.shape (31 - d - 1))) ∧ st.upd b (.cells [.int .i64 (c + 1)]) = st.upd b (.cells [.int .i64 c']) ∧ ((decide (c + ((1 + sumL Tm.nodes ts : Nat) : Int) ≤ 120) && (decide (1 ≤ 31 - d) && ownOk k n s ts.length && ts.all fun t => t.shape (31 - d - 1))) = true → c' = c + ((1 + sumL Tm.nodes ts : Nat) : Int)) :=
      fun v h1 h2 => ⟨c + 1, by rw [h1], rfl, fun h3 => by rw [h2 (h1.trans h3)]; simp [sumL]⟩
    refine opsG_split (fun h1 => ?_) (fun h1 => ?_)
    case refine_2 =>
      simp -implicitDefEqProofs only [h1, evb0, evb1, evb2, evb3, evb4, evb5, evb6, implies_true, ne_eq, isMut, aFn, List.contains, List.elem, aBox, aField, aLoad, sub, aLen, aNil, aPick, aExt, aFld, gd, noJunk, plainOp, aBuildSlice, aParts, seqParts, fitAll, List.range', ↓reduceIte, reduceCtorEq, Nat.reduceEqDiff, Nat.reduceAdd, Nat.reduceLeDiff, Nat.reduceMul, Nat.reduceLT, Nat.reduceBEq, tI_2, zI_2, underlying2, tI_3, zI_3, underlying3, tI_4, zI_4, underlying4, tI_5, zI_5, underlying5, tI_6, zI_6, underlying6, tI_7, zI_7, fI_7_0, fI_7_1, fI_7_2, fI_7_3, bI_7, tI_8, zI_8, fI_8_0, fI_8_1, fI_8_2, fI_8_3, bI_8, tI_9, zI_9, underlying9, tI_10, zI_10, underlying10, tI_11, zI_11, underlying11, tI_12, zI_12, underlying12, tI_13, zI_13, fI_13_0, fI_13_1, bI_13, tI_25, zI_25, eI_25, eB_25, eZ_25, underlying25, tI_26, zI_26, fI_26_0, fI_26_1, fI_26_2, bI_26, tI_30, zI_30, eI_30, eB_30, eZ_30, underlying30, tI_32, zI_32, fI_32_0, fI_32_1, fI_32_2, fI_32_3, bI_32, tI_34, zI_34, fI_34_0, fI_34_1, fI_34_2, bI_34, tI_35, zI_35, fI_35_0, fI_35_1, fI_35_2, bI_35, tI_41, zI_41, eI_41, eB_41, eZ_41, underlying41, tI_70, zI_70, tI_73, zI_73, aI_73]
      simp only [Bool.not_false, decide_eq_true_eq] at h1
      refine hfin false ?_ (by intro h; cases h)
      rw [show decide (c + ((1 + sumL Tm.nodes ts : Nat) : Int) ≤ 120) = false by simp; omega]
      rfl
    simp -implicitDefEqProofs only [h1, evb0, evb1, evb2, evb3, evb4, evb5, evb6, implies_true, ne_eq, isMut, aFn, List.contains, List.elem, aBox, aField, aLoad, sub, aLen, aNil, aPick, aExt, aFld, gd, noJunk, plainOp, aBuildSlice, aParts, seqParts, fitAll, List.range', ↓reduceIte, reduceCtorEq, Nat.reduceEqDiff, Nat.reduceAdd, Nat.reduceLeDiff, Nat.reduceMul, Nat.reduceLT, Nat.reduceBEq, tI_2, zI_2, underlying2, tI_3, zI_3, underlying3, tI_4, zI_4, underlying4, tI_5, zI_5, underlying5, tI_6, zI_6, underlying6, tI_7, zI_7, fI_7_0, fI_7_1, fI_7_2, fI_7_3, bI_7, tI_8, zI_8, fI_8_0, fI_8_1, fI_8_2, fI_8_3, bI_8, tI_9, zI_9, underlying9, tI_10, zI_10, underlying10, tI_11, zI_11, underlying11, tI_12, zI_12, underlying12, tI_13, zI_13, fI_13_0, fI_13_1, bI_13, tI_25, zI_25, eI_25, eB_25, eZ_25, underlying25, tI_26, zI_26, fI_26_0, fI_26_1, fI_26_2, bI_26, tI_30, zI_30, eI_30, eB_30, eZ_30, underlying30, tI_32, zI_32, fI_32_0, fI_32_1, fI_32_2, fI_32_3, bI_32, tI_34, zI_34, fI_34_0, fI_34_1, fI_34_2, bI_34, tI_35, zI_35, fI_35_0, fI_35_1, fI_35_2, bI_35, tI_41, zI_41, eI_41, eB_41, eZ_41, underlying41, tI_70, zI_70, tI_73, zI_73, aI_73]
    refine ⟨fun h2 => ?_, fun h2 => ?_⟩
    · simp -implicitDefEqProofs only [evb0, evb1, evb2, evb3, evb4, evb5, evb6, implies_true, ne_eq, isMut, aFn, List.contains, List.elem, aBox, aField, aLoad, sub, aLen, aNil, aPick, aExt, aFld, gd, noJunk, plainOp, aBuildSlice, aParts, seqParts, fitAll, List.range', ↓reduceIte, reduceCtorEq, Nat.reduceEqDiff, Nat.reduceAdd, Nat.reduceLeDiff, Nat.reduceMul, Nat.reduceLT, Nat.reduceBEq, tI_2, zI_2, underlying2, tI_3, zI_3, underlying3, tI_4, zI_4, underlying4, tI_5, zI_5, underlying5, tI_6, zI_6, underlying6, tI_7, zI_7, fI_7_0, fI_7_1, fI_7_2, fI_7_3, bI_7, tI_8, zI_8, fI_8_0, fI_8_1, fI_8_2, fI_8_3, bI_8, tI_9, zI_9, underlying9, tI_10, zI_10, underlying10, tI_11, zI_11, underlying11, tI_12, zI_12, underlying12, tI_13, zI_13, fI_13_0, fI_13_1, bI_13, tI_25, zI_25, eI_25, eB_25, eZ_25, underlying25, tI_26, zI_26, fI_26_0, fI_26_1, fI_26_2, bI_26, tI_30, zI_30, eI_30, eB_30, eZ_30, underlying30, tI_32, zI_32, fI_32_0, fI_32_1, fI_32_2, fI_32_3, bI_32, tI_34, zI_34, fI_34_0, fI_34_1, fI_34_2, bI_34, tI_35, zI_35, fI_35_0, fI_35_1, fI_35_2, bI_35, tI_41, zI_41, eI_41, eB_41, eZ_41, underlying41, tI_70, zI_70, tI_73, zI_73, aI_73]
      simp only [decide_eq_true_eq] at h2
      refine hfin false ?_ (by intro h; cases h)
      rw [show decide (1 ≤ 31 - d) = false by simp; omega]
      simp
    simp only [decide_eq_false_iff_not] at h1 h2
    rw [show decide (1 ≤ 31 - d) = true by simp; omega] at hfin ⊢
    simp only [Bool.true_and] at hfin ⊢
    rw [show 31 - d - 1 = 30 - d by omega] at hfin ⊢
    -- no kids
    have hleaf : ∀ q : Bool, (∀ h : ts = [], ownOk k n s ts.length = q) → (ts ≠ [] → ownOk k n s ts.length = false) → (q && decide ((ts.length : Int) = 0)) = (decide (c + ((1 + sumL Tm.nodes ts : Nat) : Int) ≤ 120) && (ownOk k n s ts.length && ts.all fun t => t.shape (30 - d))) := by
      intro q hq1 hq2
      by_cases ht : ts = []
      · rw [hq1 ht]; subst ht
        have e : c + ((1 + sumL Tm.nodes [] : Nat) : Int) ≤ 120 := by simp only [sumL]; omega
        rw [decide_eq_true e]
        simp
      · rw [hq2 ht]
        have : ¬ (ts.length : Int) = 0 := by intro h; exact ht (List.eq_nil_of_length_eq_zero (by omega))
        rw [decide_eq_false this]
        simp
    simp -implicitDefEqProofs only [evb0, evb1, evb2, evb3, evb4, evb5, evb6, implies_true, ne_eq, isMut, aFn, List.contains, List.elem, aBox, aField, aLoad, sub, aLen, aNil, aPick, aExt, aFld, gd, noJunk, plainOp, aBuildSlice, aParts, seqParts, fitAll, List.range', ↓reduceIte, reduceCtorEq, Nat.reduceEqDiff, Nat.reduceAdd, Nat.reduceLeDiff, Nat.reduceMul, Nat.reduceLT, Nat.reduceBEq, tI_2, zI_2, underlying2, tI_3, zI_3, underlying3, tI_4, zI_4, underlying4, tI_5, zI_5, underlying5, tI_6, zI_6, underlying6, tI_7, zI_7, fI_7_0, fI_7_1, fI_7_2, fI_7_3, bI_7, tI_8, zI_8, fI_8_0, fI_8_1, fI_8_2, fI_8_3, bI_8, tI_9, zI_9, underlying9, tI_10, zI_10, underlying10, tI_11, zI_11, underlying11, tI_12, zI_12, underlying12, tI_13, zI_13, fI_13_0, fI_13_1, bI_13, tI_25, zI_25, eI_25, eB_25, eZ_25, underlying25, tI_26, zI_26, fI_26_0, fI_26_1, fI_26_2, bI_26, tI_30, zI_30, eI_30, eB_30, eZ_30, underlying30, tI_32, zI_32, fI_32_0, fI_32_1, fI_32_2, fI_32_3, bI_32, tI_34, zI_34, fI_34_0, fI_34_1, fI_34_2, bI_34, tI_35, zI_35, fI_35_0, fI_35_1, fI_35_2, bI_35, tI_41, zI_41, eI_41, eB_41, eZ_41, underlying41, tI_70, zI_70, tI_73, zI_73, aI_73]
    refine cond_split (fun hk1 => ?_) (fun hk1 => ?_)
    · simp only [decide_eq_true_eq] at hk1
      subst hk1
      simp -implicitDefEqProofs only [evb0, evb1, evb2, evb3, evb4, evb5, evb6, implies_true, ne_eq, isMut, aFn, List.contains, List.elem, aBox, aField, aLoad, sub, aLen, aNil, aPick, aExt, aFld, gd, noJunk, plainOp, aBuildSlice, aParts, seqParts, fitAll, List.range', ↓reduceIte, reduceCtorEq, Nat.reduceEqDiff, Nat.reduceAdd, Nat.reduceLeDiff, Nat.reduceMul, Nat.reduceLT, Nat.reduceBEq, tI_2, zI_2, underlying2, tI_3, zI_3, underlying3, tI_4, zI_4, underlying4, tI_5, zI_5, underlying5, tI_6, zI_6, underlying6, tI_7, zI_7, fI_7_0, fI_7_1, fI_7_2, fI_7_3, bI_7, tI_8, zI_8, fI_8_0, fI_8_1, fI_8_2, fI_8_3, bI_8, tI_9, zI_9, underlying9, tI_10, zI_10, underlying10, tI_11, zI_11, underlying11, tI_12, zI_12, underlying12, tI_13, zI_13, fI_13_0, fI_13_1, bI_13, tI_25, zI_25, eI_25, eB_25, eZ_25, underlying25, tI_26, zI_26, fI_26_0, fI_26_1, fI_26_2, bI_26, tI_30, zI_30, eI_30, eB_30, eZ_30, underlying30, tI_32, zI_32, fI_32_0, fI_32_1, fI_32_2, fI_32_3, bI_32, tI_34, zI_34, fI_34_0, fI_34_1, fI_34_2, bI_34, tI_35, zI_35, fI_35_0, fI_35_1, fI_35_2, bI_35, tI_41, zI_41, eI_41, eB_41, eZ_41, underlying41, tI_70, zI_70, tI_73, zI_73, aI_73]
      refine (c_within _ _ _ _).to ?_
      repeat' (first
        | (simp -implicitDefEqProofs only [*, evb0, evb1, evb2, evb3, evb4, evb5, evb6, implies_true, ne_eq, isMut, aFn, List.contains, List.elem, aBox, aField, aLoad, sub, aLen, aNil, aPick, aExt, aFld, gd, noJunk, plainOp, aBuildSlice, aParts, seqParts, fitAll, List.range', ↓reduceIte, reduceCtorEq, Nat.reduceEqDiff, Nat.reduceAdd, Nat.reduceLeDiff, Nat.reduceMul, Nat.reduceLT, Nat.reduceBEq, tI_2, zI_2, underlying2, tI_3, zI_3, underlying3, tI_4, zI_4, underlying4, tI_5, zI_5, underlying5, tI_6, zI_6, underlying6, tI_7, zI_7, fI_7_0, fI_7_1, fI_7_2, fI_7_3, bI_7, tI_8, zI_8, fI_8_0, fI_8_1, fI_8_2, fI_8_3, bI_8, tI_9, zI_9, underlying9, tI_10, zI_10, underlying10, tI_11, zI_11, underlying11, tI_12, zI_12, underlying12, tI_13, zI_13, fI_13_0, fI_13_1, bI_13, tI_25, zI_25, eI_25, eB_25, eZ_25, underlying25, tI_26, zI_26, fI_26_0, fI_26_1, fI_26_2, bI_26, tI_30, zI_30, eI_30, eB_30, eZ_30, underlying30, tI_32, zI_32, fI_32_0, fI_32_1, fI_32_2, fI_32_3, bI_32, tI_34, zI_34, fI_34_0, fI_34_1, fI_34_2, bI_34, tI_35, zI_35, fI_35_0, fI_35_1, fI_35_2, bI_35, tI_41, zI_41, eI_41, eB_41, eZ_41, underlying41, tI_70, zI_70, tI_73, zI_73, aI_73])
        | (refine opsG_split (fun h => ?_) (fun h => ?_))
        
        | (refine cond_split (fun h => ?_) (fun h => ?_)))
      all_goals first
        | (refine hfin false ?_ (by intro h; cases h); rw [show ownOk 1 n s ts.length = false by first | (simp only [ownOk, *, show decide ((2 : Int) = 1) = false from rfl, show decide ((2 : Int) = 2) = true from rfl, show decide ((1 : Int) = 1) = true from rfl, cond_true, cond_false, Bool.not_true, Bool.not_false, Bool.false_and, Bool.and_false, Bool.true_and]; done) | (simp_all [ownOk]; done) | (simp_all [ownOk]; intro a e; have := h a; omega)]; simp; done)
        | (refine hfin _ ?_ (fun h => List.eq_nil_of_length_eq_zero (by simpa using h)); rw [← hleaf true (fun h => by simp_all [ownOk]) (fun h => by simp [ownOk, h])]; simp; done)
    simp only [decide_eq_false_iff_not] at hk1
    simp -implicitDefEqProofs only [evb0, evb1, evb2, evb3, evb4, evb5, evb6, implies_true, ne_eq, isMut, aFn, List.contains, List.elem, aBox, aField, aLoad, sub, aLen, aNil, aPick, aExt, aFld, gd, noJunk, plainOp, aBuildSlice, aParts, seqParts, fitAll, List.range', ↓reduceIte, reduceCtorEq, Nat.reduceEqDiff, Nat.reduceAdd, Nat.reduceLeDiff, Nat.reduceMul, Nat.reduceLT, Nat.reduceBEq, tI_2, zI_2, underlying2, tI_3, zI_3, underlying3, tI_4, zI_4, underlying4, tI_5, zI_5, underlying5, tI_6, zI_6, underlying6, tI_7, zI_7, fI_7_0, fI_7_1, fI_7_2, fI_7_3, bI_7, tI_8, zI_8, fI_8_0, fI_8_1, fI_8_2, fI_8_3, bI_8, tI_9, zI_9, underlying9, tI_10, zI_10, underlying10, tI_11, zI_11, underlying11, tI_12, zI_12, underlying12, tI_13, zI_13, fI_13_0, fI_13_1, bI_13, tI_25, zI_25, eI_25, eB_25, eZ_25, underlying25, tI_26, zI_26, fI_26_0, fI_26_1, fI_26_2, bI_26, tI_30, zI_30, eI_30, eB_30, eZ_30, underlying30, tI_32, zI_32, fI_32_0, fI_32_1, fI_32_2, fI_32_3, bI_32, tI_34, zI_34, fI_34_0, fI_34_1, fI_34_2, bI_34, tI_35, zI_35, fI_35_0, fI_35_1, fI_35_2, bI_35, tI_41, zI_41, eI_41, eB_41, eZ_41, underlying41, tI_70, zI_70, tI_73, zI_73, aI_73]
    refine cond_split (fun hk2 => ?_) (fun hk2 => ?_)
    · simp only [decide_eq_true_eq] at hk2
      subst hk2
      simp -implicitDefEqProofs only [evb0, evb1, evb2, evb3, evb4, evb5, evb6, implies_true, ne_eq, isMut, aFn, List.contains, List.elem, aBox, aField, aLoad, sub, aLen, aNil, aPick, aExt, aFld, gd, noJunk, plainOp, aBuildSlice, aParts, seqParts, fitAll, List.range', ↓reduceIte, reduceCtorEq, Nat.reduceEqDiff, Nat.reduceAdd, Nat.reduceLeDiff, Nat.reduceMul, Nat.reduceLT, Nat.reduceBEq, tI_2, zI_2, underlying2, tI_3, zI_3, underlying3, tI_4, zI_4, underlying4, tI_5, zI_5, underlying5, tI_6, zI_6, underlying6, tI_7, zI_7, fI_7_0, fI_7_1, fI_7_2, fI_7_3, bI_7, tI_8, zI_8, fI_8_0, fI_8_1, fI_8_2, fI_8_3, bI_8, tI_9, zI_9, underlying9, tI_10, zI_10, underlying10, tI_11, zI_11, underlying11, tI_12, zI_12, underlying12, tI_13, zI_13, fI_13_0, fI_13_1, bI_13, tI_25, zI_25, eI_25, eB_25, eZ_25, underlying25, tI_26, zI_26, fI_26_0, fI_26_1, fI_26_2, bI_26, tI_30, zI_30, eI_30, eB_30, eZ_30, underlying30, tI_32, zI_32, fI_32_0, fI_32_1, fI_32_2, fI_32_3, bI_32, tI_34, zI_34, fI_34_0, fI_34_1, fI_34_2, bI_34, tI_35, zI_35, fI_35_0, fI_35_1, fI_35_2, bI_35, tI_41, zI_41, eI_41, eB_41, eZ_41, underlying41, tI_70, zI_70, tI_73, zI_73, aI_73]
      refine (c_within _ _ _ _).to ?_
      repeat' (first
        | (simp -implicitDefEqProofs only [*, evb0, evb1, evb2, evb3, evb4, evb5, evb6, implies_true, ne_eq, isMut, aFn, List.contains, List.elem, aBox, aField, aLoad, sub, aLen, aNil, aPick, aExt, aFld, gd, noJunk, plainOp, aBuildSlice, aParts, seqParts, fitAll, List.range', ↓reduceIte, reduceCtorEq, Nat.reduceEqDiff, Nat.reduceAdd, Nat.reduceLeDiff, Nat.reduceMul, Nat.reduceLT, Nat.reduceBEq, tI_2, zI_2, underlying2, tI_3, zI_3, underlying3, tI_4, zI_4, underlying4, tI_5, zI_5, underlying5, tI_6, zI_6, underlying6, tI_7, zI_7, fI_7_0, fI_7_1, fI_7_2, fI_7_3, bI_7, tI_8, zI_8, fI_8_0, fI_8_1, fI_8_2, fI_8_3, bI_8, tI_9, zI_9, underlying9, tI_10, zI_10, underlying10, tI_11, zI_11, underlying11, tI_12, zI_12, underlying12, tI_13, zI_13, fI_13_0, fI_13_1, bI_13, tI_25, zI_25, eI_25, eB_25, eZ_25, underlying25, tI_26, zI_26, fI_26_0, fI_26_1, fI_26_2, bI_26, tI_30, zI_30, eI_30, eB_30, eZ_30, underlying30, tI_32, zI_32, fI_32_0, fI_32_1, fI_32_2, fI_32_3, bI_32, tI_34, zI_34, fI_34_0, fI_34_1, fI_34_2, bI_34, tI_35, zI_35, fI_35_0, fI_35_1, fI_35_2, bI_35, tI_41, zI_41, eI_41, eB_41, eZ_41, underlying41, tI_70, zI_70, tI_73, zI_73, aI_73])
        | (refine opsG_split (fun h => ?_) (fun h => ?_))
        
        | (refine cond_split (fun h => ?_) (fun h => ?_)))
      all_goals first
        | (refine hfin false ?_ (by intro h; cases h); rw [show ownOk 2 n s ts.length = false by first | (simp only [ownOk, *, show decide ((2 : Int) = 1) = false from rfl, show decide ((2 : Int) = 2) = true from rfl, show decide ((1 : Int) = 1) = true from rfl, cond_true, cond_false, Bool.not_true, Bool.not_false, Bool.false_and, Bool.and_false, Bool.true_and]; done) | (simp_all [ownOk]; done) | (simp_all [ownOk]; intro a e; have := h a; omega)]; simp; done)
        | (refine hfin _ ?_ (fun h => List.eq_nil_of_length_eq_zero (by simpa using h)); rw [← hleaf true (fun h => by simp_all [ownOk]) (fun h => by simp [ownOk, h])]; simp; done)
    simp only [decide_eq_false_iff_not] at hk2
    simp -implicitDefEqProofs only [evb0, evb1, evb2, evb3, evb4, evb5, evb6, implies_true, ne_eq, isMut, aFn, List.contains, List.elem, aBox, aField, aLoad, sub, aLen, aNil, aPick, aExt, aFld, gd, noJunk, plainOp, aBuildSlice, aParts, seqParts, fitAll, List.range', ↓reduceIte, reduceCtorEq, Nat.reduceEqDiff, Nat.reduceAdd, Nat.reduceLeDiff, Nat.reduceMul, Nat.reduceLT, Nat.reduceBEq, tI_2, zI_2, underlying2, tI_3, zI_3, underlying3, tI_4, zI_4, underlying4, tI_5, zI_5, underlying5, tI_6, zI_6, underlying6, tI_7, zI_7, fI_7_0, fI_7_1, fI_7_2, fI_7_3, bI_7, tI_8, zI_8, fI_8_0, fI_8_1, fI_8_2, fI_8_3, bI_8, tI_9, zI_9, underlying9, tI_10, zI_10, underlying10, tI_11, zI_11, underlying11, tI_12, zI_12, underlying12, tI_13, zI_13, fI_13_0, fI_13_1, bI_13, tI_25, zI_25, eI_25, eB_25, eZ_25, underlying25, tI_26, zI_26, fI_26_0, fI_26_1, fI_26_2, bI_26, tI_30, zI_30, eI_30, eB_30, eZ_30, underlying30, tI_32, zI_32, fI_32_0, fI_32_1, fI_32_2, fI_32_3, bI_32, tI_34, zI_34, fI_34_0, fI_34_1, fI_34_2, bI_34, tI_35, zI_35, fI_35_0, fI_35_1, fI_35_2, bI_35, tI_41, zI_41, eI_41, eB_41, eZ_41, underlying41, tI_70, zI_70, tI_73, zI_73, aI_73]
    refine cond_split (fun hk3 => ?_) (fun hk3 => ?_)
    case refine_2 =>
      simp only [decide_eq_false_iff_not] at hk3
      simp -implicitDefEqProofs only [evb0, evb1, evb2, evb3, evb4, evb5, evb6, implies_true, ne_eq, isMut, aFn, List.contains, List.elem, aBox, aField, aLoad, sub, aLen, aNil, aPick, aExt, aFld, gd, noJunk, plainOp, aBuildSlice, aParts, seqParts, fitAll, List.range', ↓reduceIte, reduceCtorEq, Nat.reduceEqDiff, Nat.reduceAdd, Nat.reduceLeDiff, Nat.reduceMul, Nat.reduceLT, Nat.reduceBEq, tI_2, zI_2, underlying2, tI_3, zI_3, underlying3, tI_4, zI_4, underlying4, tI_5, zI_5, underlying5, tI_6, zI_6, underlying6, tI_7, zI_7, fI_7_0, fI_7_1, fI_7_2, fI_7_3, bI_7, tI_8, zI_8, fI_8_0, fI_8_1, fI_8_2, fI_8_3, bI_8, tI_9, zI_9, underlying9, tI_10, zI_10, underlying10, tI_11, zI_11, underlying11, tI_12, zI_12, underlying12, tI_13, zI_13, fI_13_0, fI_13_1, bI_13, tI_25, zI_25, eI_25, eB_25, eZ_25, underlying25, tI_26, zI_26, fI_26_0, fI_26_1, fI_26_2, bI_26, tI_30, zI_30, eI_30, eB_30, eZ_30, underlying30, tI_32, zI_32, fI_32_0, fI_32_1, fI_32_2, fI_32_3, bI_32, tI_34, zI_34, fI_34_0, fI_34_1, fI_34_2, bI_34, tI_35, zI_35, fI_35_0, fI_35_1, fI_35_2, bI_35, tI_41, zI_41, eI_41, eB_41, eZ_41, underlying41, tI_70, zI_70, tI_73, zI_73, aI_73]
      refine hfin false ?_ (by intro h; cases h)
      rw [show ownOk k n s ts.length = false by simp [ownOk, hk1, hk2, hk3]]
      simp
    simp only [decide_eq_true_eq] at hk3
    subst hk3
    have hk' := fun st hb => hk st hb (by omega) (by omega)
    clear hk
    repeat' (first
      | (simp -implicitDefEqProofs only [*, evb0, evb1, evb2, evb3, evb4, evb5, evb6, implies_true, ne_eq, isMut, aFn, List.contains, List.elem, aBox, aField, aLoad, sub, aLen, aNil, aPick, aExt, aFld, gd, noJunk, plainOp, aBuildSlice, aParts, seqParts, fitAll, List.range', ↓reduceIte, reduceCtorEq, Nat.reduceEqDiff, Nat.reduceAdd, Nat.reduceLeDiff, Nat.reduceMul, Nat.reduceLT, Nat.reduceBEq, tI_2, zI_2, underlying2, tI_3, zI_3, underlying3, tI_4, zI_4, underlying4, tI_5, zI_5, underlying5, tI_6, zI_6, underlying6, tI_7, zI_7, fI_7_0, fI_7_1, fI_7_2, fI_7_3, bI_7, tI_8, zI_8, fI_8_0, fI_8_1, fI_8_2, fI_8_3, bI_8, tI_9, zI_9, underlying9, tI_10, zI_10, underlying10, tI_11, zI_11, underlying11, tI_12, zI_12, underlying12, tI_13, zI_13, fI_13_0, fI_13_1, bI_13, tI_25, zI_25, eI_25, eB_25, eZ_25, underlying25, tI_26, zI_26, fI_26_0, fI_26_1, fI_26_2, bI_26, tI_30, zI_30, eI_30, eB_30, eZ_30, underlying30, tI_32, zI_32, fI_32_0, fI_32_1, fI_32_2, fI_32_3, bI_32, tI_34, zI_34, fI_34_0, fI_34_1, fI_34_2, bI_34, tI_35, zI_35, fI_35_0, fI_35_1, fI_35_2, bI_35, tI_41, zI_41, eI_41, eB_41, eZ_41, underlying41, tI_70, zI_70, tI_73, zI_73, aI_73])
      | (refine opsG_split (fun h => ?_) (fun h => ?_))
      | (refine (c_impl_NameValid s _).to ?_)
      | (refine cond_split (fun h => ?_) (fun h => ?_)))
    all_goals first
      | (refine hfin false ?_ (by intro h; cases h); rw [show ownOk 3 n s ts.length = false by (simp_all [ownOk]; done)]; simp; done)
      | skip
    refine (hk' _ (Store.upd_same _ _ _)).mono ?_
    rintro _ _ ⟨c', rfl, rfl, hc'⟩
    simp -implicitDefEqProofs only [Store.upd_upd, evb0, evb1, evb2, evb3, evb4, evb5, evb6, implies_true, ne_eq, isMut, aFn, List.contains, List.elem, aBox, aField, aLoad, sub, aLen, aNil, aPick, aExt, aFld, gd, noJunk, plainOp, aBuildSlice, aParts, seqParts, fitAll, List.range', ↓reduceIte, reduceCtorEq, Nat.reduceEqDiff, Nat.reduceAdd, Nat.reduceLeDiff, Nat.reduceMul, Nat.reduceLT, Nat.reduceBEq, tI_2, zI_2, underlying2, tI_3, zI_3, underlying3, tI_4, zI_4, underlying4, tI_5, zI_5, underlying5, tI_6, zI_6, underlying6, tI_7, zI_7, fI_7_0, fI_7_1, fI_7_2, fI_7_3, bI_7, tI_8, zI_8, fI_8_0, fI_8_1, fI_8_2, fI_8_3, bI_8, tI_9, zI_9, underlying9, tI_10, zI_10, underlying10, tI_11, zI_11, underlying11, tI_12, zI_12, underlying12, tI_13, zI_13, fI_13_0, fI_13_1, bI_13, tI_25, zI_25, eI_25, eB_25, eZ_25, underlying25, tI_26, zI_26, fI_26_0, fI_26_1, fI_26_2, bI_26, tI_30, zI_30, eI_30, eB_30, eZ_30, underlying30, tI_32, zI_32, fI_32_0, fI_32_1, fI_32_2, fI_32_3, bI_32, tI_34, zI_34, fI_34_0, fI_34_1, fI_34_2, bI_34, tI_35, zI_35, fI_35_0, fI_35_1, fI_35_2, bI_35, tI_41, zI_41, eI_41, eB_41, eZ_41, underlying41, tI_70, zI_70, tI_73, zI_73, aI_73]
    have ho : ownOk 3 n s ts.length = true := by simp_all [ownOk]
    rw [ho, show c + ((1 + sumL Tm.nodes ts : Nat) : Int) = c + 1 + (sumL Tm.nodes ts : Int) by omega]
    simp only [Bool.true_and, Bool.not_not]
    first | exact ⟨c', trivial, rfl, hc'⟩ | exact ⟨c', rfl, rfl, hc'⟩
termination_by t => SizeOf.sizeOf t
decreasing_by have := List.sizeOf_lt_of_mem hx; simp only [Tm.mk.sizeOf_spec]; omega
end Go.AW
