
/- Valid proofs: what the program's functions return. -/
import Derived.Test.YtcookjmgjbhkiaaGp2
import Derived.Test.YtcookjmgjbhkiaaGs6
namespace Go.AW
open Go.Proofs.Try
set_option linter.unusedSimpArgs false
set_option maxRecDepth 100000

/-- What a scan leaves: the answer, the counter. -/
def pscanned (ok : Bool) (c n : Int) (b : Nat) (st : Store) (r : AV) (st' : Store) : Prop :=
  ∃ c', r = .bool (decide (c + n ≤ 60) && ok) ∧ st' = st.upd b (.cells [.int .i64 c']) ∧ ((decide (c + n ≤ 60) && ok) = true → c' = c + n)

theorem c_pscan_1 (x : Pf) (d c : Int) (b : Nat) (st : Store) (hd : -1000 ≤ d) (hd1 : d ≤ 1000)
    (h : ACalls prog 45 [x.av, .int .i64 (d + 1), .ptr b 0] st (pscanned (x.shape (20 - d)) c x.nodes b st)) :
    ACalls prog 66 [x.av, .pptr (.int .i64 d), .pptr (.ptr b 0)] st (fun r st' => ∃ c', r = .bool (!(decide (c + x.nodes ≤ 60) && x.shape (20 - d))) ∧ st' = st.upd b (.cells [.int .i64 c']) ∧ ((decide (c + (x.nodes : Int) ≤ 60) && x.shape (20 - d)) = true → c' = c + x.nodes)) := by
  have hw := wrap64 (n := d + 1) (by omega) (by omega)
  refine acalls_fit [] func66 ntmps66 rfl rfl (by kernel_rfl) (by decide +kernel) (by show 3 ≤ _; decide +kernel) ?_
  intro _
  simp -implicitDefEqProofs only [hw, Pf.av_junk, Pf.av_agg, Pf.av_width, evb0, evb1, evb2, evb3, evb4, evb5, evb6, ↓Int.cast_ofNat_Int, implies_true, ne_eq, isMut, aFn, List.contains, List.elem, aBox, aField, aLoad, sub, aNil, aPick, aExt, aFld, gd, noJunk, plainOp, aBuildSlice, aParts, seqParts, fitAll, List.range', ↓reduceIte, reduceCtorEq, Nat.reduceEqDiff, Nat.reduceAdd, Nat.reduceLeDiff, Nat.reduceMul, Nat.reduceLT, Nat.reduceBEq, Int.reduceEq, tI_3, zI_3, underlying3, tI_4, zI_4, underlying4, tI_5, zI_5, underlying5, tI_7, zI_7, fI_7_0, fI_7_1, fI_7_2, fI_7_3, bI_7, tI_8, zI_8, fI_8_0, fI_8_1, fI_8_2, fI_8_3, bI_8, tI_9, zI_9, underlying9, tI_11, zI_11, underlying11, tI_13, zI_13, fI_13_0, fI_13_1, bI_13, tI_27, zI_27, fI_27_0, fI_27_1, fI_27_2, bI_27, tI_35, zI_35, fI_35_0, fI_35_1, fI_35_2, bI_35, tI_70, zI_70]
  refine h.mono ?_
  rintro _ _ ⟨c', rfl, rfl, hc⟩
  simp -implicitDefEqProofs only [evb0, evb1, evb2, evb3, evb4, evb5, evb6, ↓Int.cast_ofNat_Int, implies_true, ne_eq, isMut, aFn, List.contains, List.elem, aBox, aField, aLoad, sub, aNil, aPick, aExt, aFld, gd, noJunk, plainOp, aBuildSlice, aParts, seqParts, fitAll, List.range', ↓reduceIte, reduceCtorEq, Nat.reduceEqDiff, Nat.reduceAdd, Nat.reduceLeDiff, Nat.reduceMul, Nat.reduceLT, Nat.reduceBEq, Int.reduceEq, tI_3, zI_3, underlying3, tI_4, zI_4, underlying4, tI_5, zI_5, underlying5, tI_7, zI_7, fI_7_0, fI_7_1, fI_7_2, fI_7_3, bI_7, tI_8, zI_8, fI_8_0, fI_8_1, fI_8_2, fI_8_3, bI_8, tI_9, zI_9, underlying9, tI_11, zI_11, underlying11, tI_13, zI_13, fI_13_0, fI_13_1, bI_13, tI_27, zI_27, fI_27_0, fI_27_1, fI_27_2, bI_27, tI_35, zI_35, fI_35_0, fI_35_1, fI_35_2, bI_35, tI_70, zI_70]
  refine ⟨c', ?_⟩
  first | exact hc | exact ⟨rfl, rfl, hc⟩ | exact ⟨rfl, hc⟩ | trace_state

theorem c_IndexPscan (l : List Pf) (d c : Int) (b : Nat) (st : Store) (hd : -1000 ≤ d) (hd1 : d ≤ 1000) (hb : st b = some (.cells [.int .i64 c])) (hc0 : 0 ≤ c) (hc1 : c ≤ 60)
    (h : ∀ x ∈ l, ∀ (c : Int) (st : Store), st b = some (.cells [.int .i64 c]) → 0 ≤ c → c ≤ 60 → ACalls prog 45 [x.av, .int .i64 (d + 1), .ptr b 0] st (pscanned (x.shape (20 - d)) c x.nodes b st)) :
    ACalls prog 80 [.slice (l.map Pf.av), .func 66 [.pptr (.int .i64 d), .pptr (.ptr b 0)]] st
      (fun r st' => ∃ j c', r = .int .i64 j ∧ decide (0 ≤ j) = (!(decide (c + (sumL Pf.nodes l : Int) ≤ 60) && l.all fun t => t.shape (20 - d))) ∧ st' = st.upd b (.cells [.int .i64 c']) ∧ (decide (0 ≤ j) = false → c' = c + (sumL Pf.nodes l : Int))) := by
  refine acalls_fit [] func80 ntmps80 rfl rfl (by kernel_rfl) (by decide +kernel) (by show 2 ≤ _; decide +kernel) ?_
  simp only [fitsL, AV.fits, and_true, List.length_map]
  intro ⟨hl, _⟩
  simp -implicitDefEqProofs only [List.length_map, evb0, evb1, evb2, evb3, evb4, evb5, evb6, ↓Int.cast_ofNat_Int, implies_true, ne_eq, isMut, aFn, List.contains, List.elem, aBox, aField, aLoad, sub, aNil, aPick, aExt, aFld, gd, noJunk, plainOp, aBuildSlice, aParts, seqParts, fitAll, List.range', ↓reduceIte, reduceCtorEq, Nat.reduceEqDiff, Nat.reduceAdd, Nat.reduceLeDiff, Nat.reduceMul, Nat.reduceLT, Nat.reduceBEq, Int.reduceEq, tI_2, zI_2, underlying2, tI_3, zI_3, underlying3, tI_4, zI_4, underlying4, tI_5, zI_5, underlying5, tI_6, zI_6, underlying6, tI_7, zI_7, fI_7_0, fI_7_1, fI_7_2, fI_7_3, bI_7, tI_8, zI_8, fI_8_0, fI_8_1, fI_8_2, fI_8_3, bI_8, tI_11, zI_11, underlying11, tI_15, zI_15, tI_16, zI_16, tI_18, zI_18, fI_18_0, bI_18, tI_19, zI_19, fI_19_0, bI_19, tI_33, zI_33, eI_33, eB_33, eZ_33, underlying33, tI_35, zI_35, fI_35_0, fI_35_1, fI_35_2, bI_35]
  refine arun_loopL (α := Nat) [] (fun i => i ≤ l.length ∧ c + (sumL Pf.nodes (l.take i) : Int) ≤ 60 ∧ ∀ (j : Nat) x, j < i → l[j]? = some x → x.shape (20 - d) = true)
    (fun i => [(0, .slice (l.map Pf.av)), (1, .func 66 [.pptr (.int .i64 d), .pptr (.ptr b 0)]), (7, .int .i64 l.length), (8, .int .i64 i)]) (fun i => st.upd b (.cells [.int .i64 (c + (sumL Pf.nodes (l.take i) : Int))])) (fun i => l.length - i) (by decide +kernel)
    ⟨0, ⟨by omega, by simp only [List.take_zero, sumL]; omega, by intro j x h; omega⟩, by
      simp only [List.take_zero, sumL]
      rw [show c + ((0 : Nat) : Int) = c by omega, upd_self hb]
      exact LessL.mk (by simp -implicitDefEqProofs only [evb0, evb1, evb2, evb3, evb4, evb5, evb6, ↓Int.cast_ofNat_Int, implies_true, ne_eq, isMut, aFn, List.contains, List.elem, aBox, aField, aLoad, sub, aNil, aPick, aExt, aFld, gd, noJunk, plainOp, aBuildSlice, aParts, seqParts, fitAll, List.range', ↓reduceIte, reduceCtorEq, Nat.reduceEqDiff, Nat.reduceAdd, Nat.reduceLeDiff, Nat.reduceMul, Nat.reduceLT, Nat.reduceBEq, Int.reduceEq, tI_2, zI_2, underlying2, tI_3, zI_3, underlying3, tI_4, zI_4, underlying4, tI_5, zI_5, underlying5, tI_6, zI_6, underlying6, tI_7, zI_7, fI_7_0, fI_7_1, fI_7_2, fI_7_3, bI_7, tI_8, zI_8, fI_8_0, fI_8_1, fI_8_2, fI_8_3, bI_8, tI_11, zI_11, underlying11, tI_15, zI_15, tI_16, zI_16, tI_18, zI_18, fI_18_0, bI_18, tI_19, zI_19, fI_19_0, bI_19, tI_33, zI_33, eI_33, eB_33, eZ_33, underlying33, tI_35, zI_35, fI_35_0, fI_35_1, fI_35_2, bI_35])⟩ ?_
  intro i ⟨hi, hsum, hall⟩
  simp -implicitDefEqProofs only [List.length_map, evb0, evb1, evb2, evb3, evb4, evb5, evb6, ↓Int.cast_ofNat_Int, implies_true, ne_eq, isMut, aFn, List.contains, List.elem, aBox, aField, aLoad, sub, aNil, aPick, aExt, aFld, gd, noJunk, plainOp, aBuildSlice, aParts, seqParts, fitAll, List.range', ↓reduceIte, reduceCtorEq, Nat.reduceEqDiff, Nat.reduceAdd, Nat.reduceLeDiff, Nat.reduceMul, Nat.reduceLT, Nat.reduceBEq, Int.reduceEq, tI_2, zI_2, underlying2, tI_3, zI_3, underlying3, tI_4, zI_4, underlying4, tI_5, zI_5, underlying5, tI_6, zI_6, underlying6, tI_7, zI_7, fI_7_0, fI_7_1, fI_7_2, fI_7_3, bI_7, tI_8, zI_8, fI_8_0, fI_8_1, fI_8_2, fI_8_3, bI_8, tI_11, zI_11, underlying11, tI_15, zI_15, tI_16, zI_16, tI_18, zI_18, fI_18_0, bI_18, tI_19, zI_19, fI_19_0, bI_19, tI_33, zI_33, eI_33, eB_33, eZ_33, underlying33, tI_35, zI_35, fI_35_0, fI_35_1, fI_35_2, bI_35]
  refine ⟨fun h5 => ?_, fun h5 => ?_⟩
  case refine_2 =>
    simp -implicitDefEqProofs only [evb0, evb1, evb2, evb3, evb4, evb5, evb6, ↓Int.cast_ofNat_Int, implies_true, ne_eq, isMut, aFn, List.contains, List.elem, aBox, aField, aLoad, sub, aNil, aPick, aExt, aFld, gd, noJunk, plainOp, aBuildSlice, aParts, seqParts, fitAll, List.range', ↓reduceIte, reduceCtorEq, Nat.reduceEqDiff, Nat.reduceAdd, Nat.reduceLeDiff, Nat.reduceMul, Nat.reduceLT, Nat.reduceBEq, Int.reduceEq, tI_2, zI_2, underlying2, tI_3, zI_3, underlying3, tI_4, zI_4, underlying4, tI_5, zI_5, underlying5, tI_6, zI_6, underlying6, tI_7, zI_7, fI_7_0, fI_7_1, fI_7_2, fI_7_3, bI_7, tI_8, zI_8, fI_8_0, fI_8_1, fI_8_2, fI_8_3, bI_8, tI_11, zI_11, underlying11, tI_15, zI_15, tI_16, zI_16, tI_18, zI_18, fI_18_0, bI_18, tI_19, zI_19, fI_19_0, bI_19, tI_33, zI_33, eI_33, eB_33, eZ_33, underlying33, tI_35, zI_35, fI_35_0, fI_35_1, fI_35_2, bI_35]
    simp only [decide_eq_false_iff_not, Int.ofNat_lt] at h5
    rw [List.take_of_length_le (by omega)] at hsum ⊢
    have ha : (l.all fun t => t.shape (20 - d)) = true := all_of fun j x hx => hall j x (by have := (List.getElem?_eq_some_iff.1 hx).1; omega) hx
    exact ⟨-1, _, rfl, by rw [ha]; simp <;> omega, rfl, fun _ => rfl⟩
  simp only [decide_eq_true_eq, Int.ofNat_lt] at h5
  obtain ⟨x, hx⟩ : ∃ x, l[i]? = some x := ⟨_, List.getElem?_eq_getElem h5⟩
  have hs := sumL_take Pf.nodes hx
  simp -implicitDefEqProofs only [ev_at (av := Pf.av) eI_33 hx (Pf.av_width x), Pf.av_agg, Pf.av_width, evb0, evb1, evb2, evb3, evb4, evb5, evb6, ↓Int.cast_ofNat_Int, implies_true, ne_eq, isMut, aFn, List.contains, List.elem, aBox, aField, aLoad, sub, aNil, aPick, aExt, aFld, gd, noJunk, plainOp, aBuildSlice, aParts, seqParts, fitAll, List.range', ↓reduceIte, reduceCtorEq, Nat.reduceEqDiff, Nat.reduceAdd, Nat.reduceLeDiff, Nat.reduceMul, Nat.reduceLT, Nat.reduceBEq, Int.reduceEq, tI_2, zI_2, underlying2, tI_3, zI_3, underlying3, tI_4, zI_4, underlying4, tI_5, zI_5, underlying5, tI_6, zI_6, underlying6, tI_7, zI_7, fI_7_0, fI_7_1, fI_7_2, fI_7_3, bI_7, tI_8, zI_8, fI_8_0, fI_8_1, fI_8_2, fI_8_3, bI_8, tI_11, zI_11, underlying11, tI_15, zI_15, tI_16, zI_16, tI_18, zI_18, fI_18_0, bI_18, tI_19, zI_19, fI_19_0, bI_19, tI_33, zI_33, eI_33, eB_33, eZ_33, underlying33, tI_35, zI_35, fI_35_0, fI_35_1, fI_35_2, bI_35]
  refine (c_pscan_1 x d (c + (sumL Pf.nodes (l.take i) : Int)) b _ hd hd1 (h x (List.mem_of_getElem? hx) _ _ (Store.upd_same _ _ _) (by omega) hsum)).mono ?_
  rintro _ _ ⟨c', rfl, rfl, hc'⟩
  simp -implicitDefEqProofs only [Store.upd_upd, evb0, evb1, evb2, evb3, evb4, evb5, evb6, ↓Int.cast_ofNat_Int, implies_true, ne_eq, isMut, aFn, List.contains, List.elem, aBox, aField, aLoad, sub, aNil, aPick, aExt, aFld, gd, noJunk, plainOp, aBuildSlice, aParts, seqParts, fitAll, List.range', ↓reduceIte, reduceCtorEq, Nat.reduceEqDiff, Nat.reduceAdd, Nat.reduceLeDiff, Nat.reduceMul, Nat.reduceLT, Nat.reduceBEq, Int.reduceEq, tI_2, zI_2, underlying2, tI_3, zI_3, underlying3, tI_4, zI_4, underlying4, tI_5, zI_5, underlying5, tI_6, zI_6, underlying6, tI_7, zI_7, fI_7_0, fI_7_1, fI_7_2, fI_7_3, bI_7, tI_8, zI_8, fI_8_0, fI_8_1, fI_8_2, fI_8_3, bI_8, tI_11, zI_11, underlying11, tI_15, zI_15, tI_16, zI_16, tI_18, zI_18, fI_18_0, bI_18, tI_19, zI_19, fI_19_0, bI_19, tI_33, zI_33, eI_33, eB_33, eZ_33, underlying33, tI_35, zI_35, fI_35_0, fI_35_1, fI_35_2, bI_35]
  refine ⟨fun h6 => ?_, fun h6 => ?_⟩
  · simp -implicitDefEqProofs only [evb0, evb1, evb2, evb3, evb4, evb5, evb6, ↓Int.cast_ofNat_Int, implies_true, ne_eq, isMut, aFn, List.contains, List.elem, aBox, aField, aLoad, sub, aNil, aPick, aExt, aFld, gd, noJunk, plainOp, aBuildSlice, aParts, seqParts, fitAll, List.range', ↓reduceIte, reduceCtorEq, Nat.reduceEqDiff, Nat.reduceAdd, Nat.reduceLeDiff, Nat.reduceMul, Nat.reduceLT, Nat.reduceBEq, Int.reduceEq, tI_2, zI_2, underlying2, tI_3, zI_3, underlying3, tI_4, zI_4, underlying4, tI_5, zI_5, underlying5, tI_6, zI_6, underlying6, tI_7, zI_7, fI_7_0, fI_7_1, fI_7_2, fI_7_3, bI_7, tI_8, zI_8, fI_8_0, fI_8_1, fI_8_2, fI_8_3, bI_8, tI_11, zI_11, underlying11, tI_15, zI_15, tI_16, zI_16, tI_18, zI_18, fI_18_0, bI_18, tI_19, zI_19, fI_19_0, bI_19, tI_33, zI_33, eI_33, eB_33, eZ_33, underlying33, tI_35, zI_35, fI_35_0, fI_35_1, fI_35_2, bI_35]
    refine ⟨i, c', rfl, ?_, rfl, fun h7 => absurd h7 (by simp)⟩
    simp only [Bool.not_eq_true', Bool.and_eq_false_iff, decide_eq_false_iff_not] at h6
    rcases h6 with h6 | h6
    · rw [show decide (c + (sumL Pf.nodes l : Int) ≤ 60) = false by simp; omega]
      simp
    · rw [all_at hx h6]
      simp
  simp only [Bool.not_eq_false'] at h6
  rw [hc' h6]
  simp only [Bool.and_eq_true, decide_eq_true_eq] at h6
  simp -implicitDefEqProofs only [evb0, evb1, evb2, evb3, evb4, evb5, evb6, ↓Int.cast_ofNat_Int, implies_true, ne_eq, isMut, aFn, List.contains, List.elem, aBox, aField, aLoad, sub, aNil, aPick, aExt, aFld, gd, noJunk, plainOp, aBuildSlice, aParts, seqParts, fitAll, List.range', ↓reduceIte, reduceCtorEq, Nat.reduceEqDiff, Nat.reduceAdd, Nat.reduceLeDiff, Nat.reduceMul, Nat.reduceLT, Nat.reduceBEq, Int.reduceEq, tI_2, zI_2, underlying2, tI_3, zI_3, underlying3, tI_4, zI_4, underlying4, tI_5, zI_5, underlying5, tI_6, zI_6, underlying6, tI_7, zI_7, fI_7_0, fI_7_1, fI_7_2, fI_7_3, bI_7, tI_8, zI_8, fI_8_0, fI_8_1, fI_8_2, fI_8_3, bI_8, tI_11, zI_11, underlying11, tI_15, zI_15, tI_16, zI_16, tI_18, zI_18, fI_18_0, bI_18, tI_19, zI_19, fI_19_0, bI_19, tI_33, zI_33, eI_33, eB_33, eZ_33, underlying33, tI_35, zI_35, fI_35_0, fI_35_1, fI_35_2, bI_35]
  refine ⟨i + 1, by omega, ⟨by omega, by omega, fun j u hj hu => ?_⟩, ?_⟩
  · rcases Nat.lt_or_ge j i with h8 | h8
    · exact hall j u h8 hu
    · obtain rfl : j = i := by omega
      rw [hx] at hu; cases hu; exact h6.2
  · rw [show c + (sumL Pf.nodes (l.take i) : Int) + (x.nodes : Int) = c + (sumL Pf.nodes (l.take (i + 1)) : Int) by omega]
    have := wrap64 (n := (i : Int) + 1) (by omega) (by omega)
    exact LessL.mk (by simp -implicitDefEqProofs only [this, evb0, evb1, evb2, evb3, evb4, evb5, evb6, ↓Int.cast_ofNat_Int, implies_true, ne_eq, isMut, aFn, List.contains, List.elem, aBox, aField, aLoad, sub, aNil, aPick, aExt, aFld, gd, noJunk, plainOp, aBuildSlice, aParts, seqParts, fitAll, List.range', ↓reduceIte, reduceCtorEq, Nat.reduceEqDiff, Nat.reduceAdd, Nat.reduceLeDiff, Nat.reduceMul, Nat.reduceLT, Nat.reduceBEq, Int.reduceEq, tI_2, zI_2, underlying2, tI_3, zI_3, underlying3, tI_4, zI_4, underlying4, tI_5, zI_5, underlying5, tI_6, zI_6, underlying6, tI_7, zI_7, fI_7_0, fI_7_1, fI_7_2, fI_7_3, bI_7, tI_8, zI_8, fI_8_0, fI_8_1, fI_8_2, fI_8_3, bI_8, tI_11, zI_11, underlying11, tI_15, zI_15, tI_16, zI_16, tI_18, zI_18, fI_18_0, bI_18, tI_19, zI_19, fI_19_0, bI_19, tI_33, zI_33, eI_33, eB_33, eZ_33, underlying33, tI_35, zI_35, fI_35_0, fI_35_1, fI_35_2, bI_35])

theorem c_ContainsPscan (l : List Pf) (d c : Int) (b : Nat) (st : Store) (hd : -1000 ≤ d) (hd1 : d ≤ 1000) (hb : st b = some (.cells [.int .i64 c])) (hc0 : 0 ≤ c) (hc1 : c ≤ 60)
    (h : ∀ x ∈ l, ∀ (c : Int) (st : Store), st b = some (.cells [.int .i64 c]) → 0 ≤ c → c ≤ 60 → ACalls prog 45 [x.av, .int .i64 (d + 1), .ptr b 0] st (pscanned (x.shape (20 - d)) c x.nodes b st)) :
    ACalls prog 65 [.slice (l.map Pf.av), .func 66 [.pptr (.int .i64 d), .pptr (.ptr b 0)]] st
      (fun r st' => ∃ c', r = .bool (!(decide (c + (sumL Pf.nodes l : Int) ≤ 60) && l.all fun t => t.shape (20 - d))) ∧ st' = st.upd b (.cells [.int .i64 c']) ∧ ((decide (c + (sumL Pf.nodes l : Int) ≤ 60) && l.all fun t => t.shape (20 - d)) = true → c' = c + (sumL Pf.nodes l : Int))) := by
  have h1 := c_IndexPscan l d c b st hd hd1 hb hc0 hc1 h
  refine acalls_fit [] func65 ntmps65 rfl rfl (by kernel_rfl) (by decide +kernel) (by show 2 ≤ _; decide +kernel) ?_
  intro _
  simp -implicitDefEqProofs only [evb0, evb1, evb2, evb3, evb4, evb5, evb6, ↓Int.cast_ofNat_Int, implies_true, ne_eq, isMut, aFn, List.contains, List.elem, aBox, aField, aLoad, sub, aNil, aPick, aExt, aFld, gd, noJunk, plainOp, aBuildSlice, aParts, seqParts, fitAll, List.range', ↓reduceIte, reduceCtorEq, Nat.reduceEqDiff, Nat.reduceAdd, Nat.reduceLeDiff, Nat.reduceMul, Nat.reduceLT, Nat.reduceBEq, Int.reduceEq, tI_3, zI_3, underlying3, tI_4, zI_4, underlying4, tI_5, zI_5, underlying5, tI_6, zI_6, underlying6, tI_7, zI_7, fI_7_0, fI_7_1, fI_7_2, fI_7_3, bI_7, tI_9, zI_9, underlying9, tI_33, zI_33, eI_33, eB_33, eZ_33, underlying33, tI_80, zI_80, eI_80, eB_80, eZ_80, underlying80, tI_125, zI_125]
  refine h1.mono ?_
  rintro _ _ ⟨j, c', rfl, hj, rfl, hc⟩
  simp -implicitDefEqProofs only [evb0, evb1, evb2, evb3, evb4, evb5, evb6, ↓Int.cast_ofNat_Int, implies_true, ne_eq, isMut, aFn, List.contains, List.elem, aBox, aField, aLoad, sub, aNil, aPick, aExt, aFld, gd, noJunk, plainOp, aBuildSlice, aParts, seqParts, fitAll, List.range', ↓reduceIte, reduceCtorEq, Nat.reduceEqDiff, Nat.reduceAdd, Nat.reduceLeDiff, Nat.reduceMul, Nat.reduceLT, Nat.reduceBEq, Int.reduceEq, tI_3, zI_3, underlying3, tI_4, zI_4, underlying4, tI_5, zI_5, underlying5, tI_6, zI_6, underlying6, tI_7, zI_7, fI_7_0, fI_7_1, fI_7_2, fI_7_3, bI_7, tI_9, zI_9, underlying9, tI_33, zI_33, eI_33, eB_33, eZ_33, underlying33, tI_80, zI_80, eI_80, eB_80, eZ_80, underlying80, tI_125, zI_125]
  refine ⟨c', by rw [hj], rfl, fun h => hc (by rw [hj, h]; rfl)⟩


theorem c_proofScan : ∀ (t : Pf) (d c : Int) (b : Nat) (st : Store), st b = some (.cells [.int .i64 c]) → 0 ≤ c → c ≤ 60 → 0 ≤ d → d ≤ 21 → ACalls prog 45 [t.av, .int .i64 d, .ptr b 0] st (pscanned (t.shape (21 - d)) c t.nodes b st)
  | .mk g cl ps, d, c, b, st, hb, hc0, hc1, hd0, hd1 => by
    have hk := fun (st : Store) (hb : st b = some (.cells [.int .i64 (c + 1)])) (h1 : c + 1 ≤ 60) (h2 : d ≤ 20) => c_ContainsPscan ps d (c + 1) b st (by omega) (by omega) hb (by omega) h1 fun x hx c st hb hc0 hc1 => by
      have := c_proofScan x (d + 1) c b st hb hc0 hc1 (by omega) (by omega)
      rw [show (21 : Int) - (d + 1) = 20 - d by omega] at this
      exact this
    have hg := fun st => c_impl_GoalValid g st
    have hwi := fun st => c_within cl (-1) 19 st
    obtain ⟨k, n, s, ts⟩ := g
    rw [Tm.av_mk] at hg
    have hw := wrap64 (n := c + 1) (by omega) (by omega)
    unfold pscanned
    rw [Pf.nodes_mk, Pf.shape_mk]
    simp only [nodeOk]
    rw [show 21 - d - 1 = 20 - d by omega]
    generalize Tm.goal (.mk k n s ts) = z at *
    refine acalls_fit [] func45 ntmps45 rfl rfl (by kernel_rfl) (by decide +kernel) (by show 3 ≤ _; decide +kernel) ?_
    simp only [Pf.av_mk, fitsL, AV.fits, and_true, List.length_map]
    intro ⟨_, _, _, _, _, hl, _⟩
    clear hc0
    have hfin : (decide (c + ((1 + sumL Pf.nodes ps : Nat) : Int) ≤ 60) && (decide (1 ≤ 21 - d) && (z && decide ((-1 : Int) ≤ cl) && decide (cl ≤ 19) && decide ((ps.length : Int) ≤ 6)) && ps.all fun t => t.shape (20 - d))) = false →
        ∃ c', AV.bool false = AV.bool (decide (c + ((1 + sumL Pf.nodes ps : Nat) : Int) ≤ 60) && (decide (1 ≤ 21 - d) && (z && decide ((-1 : Int) ≤ cl) && decide (cl ≤ 19) && decide ((ps.length : Int) ≤ 6)) && ps.all fun t => t.shape (20 - d))) ∧ st.upd b (.cells [.int .i64 (c + 1)]) = st.upd b (.cells [.int .i64 c']) ∧ ((decide (c + ((1 + sumL Pf.nodes ps : Nat) : Int) ≤ 60) && (decide (1 ≤ 21 - d) && (z && decide ((-1 : Int) ≤ cl) && decide (cl ≤ 19) && decide ((ps.length : Int) ≤ 6)) && ps.all fun t => t.shape (20 - d))) = true → c' = c + ((1 + sumL Pf.nodes ps : Nat) : Int)) :=
      fun h => ⟨c + 1, by rw [h], rfl, fun h2 => by rw [h] at h2; cases h2⟩
    simp -implicitDefEqProofs only [hb, setCells, hw, evb0, evb1, evb2, evb3, evb4, evb5, evb6, ↓Int.cast_ofNat_Int, implies_true, ne_eq, isMut, aFn, List.contains, List.elem, aBox, aField, aLoad, sub, aNil, aPick, aExt, aFld, gd, noJunk, plainOp, aBuildSlice, aParts, seqParts, fitAll, List.range', ↓reduceIte, reduceCtorEq, Nat.reduceEqDiff, Nat.reduceAdd, Nat.reduceLeDiff, Nat.reduceMul, Nat.reduceLT, Nat.reduceBEq, Int.reduceEq, tI_2, zI_2, underlying2, tI_3, zI_3, underlying3, tI_4, zI_4, underlying4, tI_6, zI_6, underlying6, tI_8, zI_8, fI_8_0, fI_8_1, fI_8_2, fI_8_3, bI_8, tI_13, zI_13, fI_13_0, fI_13_1, bI_13, tI_14, zI_14, fI_14_0, fI_14_1, bI_14, tI_19, zI_19, fI_19_0, bI_19, tI_22, zI_22, eI_22, eB_22, eZ_22, underlying22, tI_23, zI_23, fI_23_0, fI_23_1, fI_23_2, fI_23_3, bI_23, tI_24, zI_24, fI_24_0, fI_24_1, fI_24_2, fI_24_3, bI_24, tI_27, zI_27, fI_27_0, fI_27_1, fI_27_2, bI_27, tI_32, zI_32, fI_32_0, fI_32_1, fI_32_2, fI_32_3, bI_32, tI_33, zI_33, eI_33, eB_33, eZ_33, underlying33, tI_34, zI_34, fI_34_0, fI_34_1, fI_34_2, bI_34, tI_35, zI_35, fI_35_0, fI_35_1, fI_35_2, bI_35, tI_41, zI_41, eI_41, eB_41, eZ_41, underlying41, tI_70, zI_70]
    repeat' (first
      | (simp -implicitDefEqProofs only [*, evb0, evb1, evb2, evb3, evb4, evb5, evb6, ↓Int.cast_ofNat_Int, implies_true, ne_eq, isMut, aFn, List.contains, List.elem, aBox, aField, aLoad, sub, aNil, aPick, aExt, aFld, gd, noJunk, plainOp, aBuildSlice, aParts, seqParts, fitAll, List.range', ↓reduceIte, reduceCtorEq, Nat.reduceEqDiff, Nat.reduceAdd, Nat.reduceLeDiff, Nat.reduceMul, Nat.reduceLT, Nat.reduceBEq, Int.reduceEq, tI_2, zI_2, underlying2, tI_3, zI_3, underlying3, tI_4, zI_4, underlying4, tI_6, zI_6, underlying6, tI_8, zI_8, fI_8_0, fI_8_1, fI_8_2, fI_8_3, bI_8, tI_13, zI_13, fI_13_0, fI_13_1, bI_13, tI_14, zI_14, fI_14_0, fI_14_1, bI_14, tI_19, zI_19, fI_19_0, bI_19, tI_22, zI_22, eI_22, eB_22, eZ_22, underlying22, tI_23, zI_23, fI_23_0, fI_23_1, fI_23_2, fI_23_3, bI_23, tI_24, zI_24, fI_24_0, fI_24_1, fI_24_2, fI_24_3, bI_24, tI_27, zI_27, fI_27_0, fI_27_1, fI_27_2, bI_27, tI_32, zI_32, fI_32_0, fI_32_1, fI_32_2, fI_32_3, bI_32, tI_33, zI_33, eI_33, eB_33, eZ_33, underlying33, tI_34, zI_34, fI_34_0, fI_34_1, fI_34_2, bI_34, tI_35, zI_35, fI_35_0, fI_35_1, fI_35_2, bI_35, tI_41, zI_41, eI_41, eB_41, eZ_41, underlying41, tI_70, zI_70])
      | (refine opsG_split (fun h => ?_) (fun h => ?_))
      | (refine (hg _).to ?_) | (refine (hwi _).to ?_)
      | (refine cond_split (fun h => ?_) (fun h => ?_)))
    all_goals first
      | (refine hfin ?_; clear hk hwi hg hfin; simp only [decide_eq_true_eq, Bool.not_false, List.length_map] at *; rw [show decide (c + ((1 + sumL Pf.nodes ps : Nat) : Int) ≤ 60) = false by simp; omega]; rfl)
      | (refine hfin ?_; clear hk hwi hg hfin; simp_all; done)
      | (refine hfin ?_; clear hk hwi hg hfin; simp_all; omega)
      | skip
    simp only [decide_eq_false_iff_not, List.length_map, Bool.not_eq_false'] at *
    have ho : (z && decide ((-1 : Int) ≤ cl) && decide (cl ≤ 19) && decide ((ps.length : Int) ≤ 6)) = true := by simp_all <;> omega
    rw [ho, show decide (1 ≤ 21 - d) = true by simp; omega, show c + ((1 + sumL Pf.nodes ps : Nat) : Int) = c + 1 + (sumL Pf.nodes ps : Int) by omega]
    simp only [Bool.true_and]
    refine (hk _ (Store.upd_same _ _ _) (by omega) (by omega)).mono ?_
    rintro _ _ ⟨c', rfl, rfl, hc'⟩
    simp -implicitDefEqProofs only [Store.upd_upd, Bool.not_not, evb0, evb1, evb2, evb3, evb4, evb5, evb6, ↓Int.cast_ofNat_Int, implies_true, ne_eq, isMut, aFn, List.contains, List.elem, aBox, aField, aLoad, sub, aNil, aPick, aExt, aFld, gd, noJunk, plainOp, aBuildSlice, aParts, seqParts, fitAll, List.range', ↓reduceIte, reduceCtorEq, Nat.reduceEqDiff, Nat.reduceAdd, Nat.reduceLeDiff, Nat.reduceMul, Nat.reduceLT, Nat.reduceBEq, Int.reduceEq, tI_2, zI_2, underlying2, tI_3, zI_3, underlying3, tI_4, zI_4, underlying4, tI_6, zI_6, underlying6, tI_8, zI_8, fI_8_0, fI_8_1, fI_8_2, fI_8_3, bI_8, tI_13, zI_13, fI_13_0, fI_13_1, bI_13, tI_14, zI_14, fI_14_0, fI_14_1, bI_14, tI_19, zI_19, fI_19_0, bI_19, tI_22, zI_22, eI_22, eB_22, eZ_22, underlying22, tI_23, zI_23, fI_23_0, fI_23_1, fI_23_2, fI_23_3, bI_23, tI_24, zI_24, fI_24_0, fI_24_1, fI_24_2, fI_24_3, bI_24, tI_27, zI_27, fI_27_0, fI_27_1, fI_27_2, bI_27, tI_32, zI_32, fI_32_0, fI_32_1, fI_32_2, fI_32_3, bI_32, tI_33, zI_33, eI_33, eB_33, eZ_33, underlying33, tI_34, zI_34, fI_34_0, fI_34_1, fI_34_2, bI_34, tI_35, zI_35, fI_35_0, fI_35_1, fI_35_2, bI_35, tI_41, zI_41, eI_41, eB_41, eZ_41, underlying41, tI_70, zI_70]
    exact ⟨c', rfl, hc'⟩
termination_by t => SizeOf.sizeOf t
decreasing_by have := List.sizeOf_lt_of_mem hx; simp only [Pf.mk.sizeOf_spec]; omega

theorem c_impl_ProofValid (t : Pf) (st : Store) : ACalls prog 14 [t.av] st (fun r st' => r = .bool t.valid ∧ st' = st) := by
  have hd : ACalls prog 14 [t.av] st (fun r st' => Drops st' st ∧ r = .bool t.valid) := by
    refine acalls_fit [] func14 ntmps14 rfl rfl (by kernel_rfl) (by decide +kernel) (by show 1 ≤ _; decide +kernel) ?_
    intro _
    simp -implicitDefEqProofs only [Pf.av_junk, Pf.av_agg, Pf.av_width, evb0, evb1, evb2, evb3, evb4, evb5, evb6, ↓Int.cast_ofNat_Int, implies_true, ne_eq, isMut, aFn, List.contains, List.elem, aBox, aField, aLoad, sub, aNil, aPick, aExt, aFld, gd, noJunk, plainOp, aBuildSlice, aParts, seqParts, fitAll, List.range', ↓reduceIte, reduceCtorEq, Nat.reduceEqDiff, Nat.reduceAdd, Nat.reduceLeDiff, Nat.reduceMul, Nat.reduceLT, Nat.reduceBEq, Int.reduceEq, tI_2, zI_2, underlying2, tI_3, zI_3, underlying3, tI_4, zI_4, underlying4, tI_5, zI_5, underlying5, tI_6, zI_6, underlying6, tI_13, zI_13, fI_13_0, fI_13_1, bI_13, tI_33, zI_33, eI_33, eB_33, eZ_33, underlying33, tI_35, zI_35, fI_35_0, fI_35_1, fI_35_2, bI_35, tI_70, zI_70]
    intro b hb
    simp -implicitDefEqProofs only [setCells, Store.upd_upd, Pf.av_junk, Pf.av_agg, Pf.av_width, evb0, evb1, evb2, evb3, evb4, evb5, evb6, ↓Int.cast_ofNat_Int, implies_true, ne_eq, isMut, aFn, List.contains, List.elem, aBox, aField, aLoad, sub, aNil, aPick, aExt, aFld, gd, noJunk, plainOp, aBuildSlice, aParts, seqParts, fitAll, List.range', ↓reduceIte, reduceCtorEq, Nat.reduceEqDiff, Nat.reduceAdd, Nat.reduceLeDiff, Nat.reduceMul, Nat.reduceLT, Nat.reduceBEq, Int.reduceEq, tI_2, zI_2, underlying2, tI_3, zI_3, underlying3, tI_4, zI_4, underlying4, tI_5, zI_5, underlying5, tI_6, zI_6, underlying6, tI_13, zI_13, fI_13_0, fI_13_1, bI_13, tI_33, zI_33, eI_33, eB_33, eZ_33, underlying33, tI_35, zI_35, fI_35_0, fI_35_1, fI_35_2, bI_35, tI_70, zI_70]
    refine (c_proofScan t 1 0 b _ (Store.upd_same _ _ _) (by omega) (by omega) (by omega) (by omega)).mono ?_
    rintro _ _ ⟨c', rfl, rfl, _⟩
    simp -implicitDefEqProofs only [Store.upd_upd, evb0, evb1, evb2, evb3, evb4, evb5, evb6, ↓Int.cast_ofNat_Int, implies_true, ne_eq, isMut, aFn, List.contains, List.elem, aBox, aField, aLoad, sub, aNil, aPick, aExt, aFld, gd, noJunk, plainOp, aBuildSlice, aParts, seqParts, fitAll, List.range', ↓reduceIte, reduceCtorEq, Nat.reduceEqDiff, Nat.reduceAdd, Nat.reduceLeDiff, Nat.reduceMul, Nat.reduceLT, Nat.reduceBEq, Int.reduceEq, tI_2, zI_2, underlying2, tI_3, zI_3, underlying3, tI_4, zI_4, underlying4, tI_5, zI_5, underlying5, tI_6, zI_6, underlying6, tI_13, zI_13, fI_13_0, fI_13_1, bI_13, tI_33, zI_33, eI_33, eB_33, eZ_33, underlying33, tI_35, zI_35, fI_35_0, fI_35_1, fI_35_2, bI_35, tI_70, zI_70]
    refine ⟨(Drops.refl st).upd hb, ?_⟩
    simp only [Pf.valid, AV.bool.injEq]
    rw [Bool.and_comm, show (21 : Int) - 1 = 20 from rfl]
    congr 1
    simp only [decide_eq_decide]
    omega
  exact hd.drop

theorem c_impl_ProofSize (t : Pf) (st : Store) : ACalls prog 16 [t.av] st (fun r st' => r = .int .i64 (if t.valid then t.nodes else 0) ∧ st' = st) := by
  have hd : ACalls prog 16 [t.av] st (fun r st' => Drops st' st ∧ r = .int .i64 (if t.valid then t.nodes else 0)) := by
    refine acalls_fit [] func16 ntmps16 rfl rfl (by kernel_rfl) (by decide +kernel) (by show 1 ≤ _; decide +kernel) ?_
    intro _
    simp -implicitDefEqProofs only [Pf.av_junk, Pf.av_agg, Pf.av_width, evb0, evb1, evb2, evb3, evb4, evb5, evb6, ↓Int.cast_ofNat_Int, implies_true, ne_eq, isMut, aFn, List.contains, List.elem, aBox, aField, aLoad, sub, aNil, aPick, aExt, aFld, gd, noJunk, plainOp, aBuildSlice, aParts, seqParts, fitAll, List.range', ↓reduceIte, reduceCtorEq, Nat.reduceEqDiff, Nat.reduceAdd, Nat.reduceLeDiff, Nat.reduceMul, Nat.reduceLT, Nat.reduceBEq, Int.reduceEq, tI_2, zI_2, underlying2, tI_3, zI_3, underlying3, tI_4, zI_4, underlying4, tI_5, zI_5, underlying5, tI_8, zI_8, fI_8_0, fI_8_1, fI_8_2, fI_8_3, bI_8, tI_13, zI_13, fI_13_0, fI_13_1, bI_13, tI_35, zI_35, fI_35_0, fI_35_1, fI_35_2, bI_35, tI_70, zI_70, tI_126, zI_126, underlying126]
    intro b hb
    simp -implicitDefEqProofs only [setCells, Store.upd_upd, Pf.av_junk, Pf.av_agg, Pf.av_width, evb0, evb1, evb2, evb3, evb4, evb5, evb6, ↓Int.cast_ofNat_Int, implies_true, ne_eq, isMut, aFn, List.contains, List.elem, aBox, aField, aLoad, sub, aNil, aPick, aExt, aFld, gd, noJunk, plainOp, aBuildSlice, aParts, seqParts, fitAll, List.range', ↓reduceIte, reduceCtorEq, Nat.reduceEqDiff, Nat.reduceAdd, Nat.reduceLeDiff, Nat.reduceMul, Nat.reduceLT, Nat.reduceBEq, Int.reduceEq, tI_2, zI_2, underlying2, tI_3, zI_3, underlying3, tI_4, zI_4, underlying4, tI_5, zI_5, underlying5, tI_8, zI_8, fI_8_0, fI_8_1, fI_8_2, fI_8_3, bI_8, tI_13, zI_13, fI_13_0, fI_13_1, bI_13, tI_35, zI_35, fI_35_0, fI_35_1, fI_35_2, bI_35, tI_70, zI_70, tI_126, zI_126, underlying126]
    refine (c_proofScan t 1 0 b _ (Store.upd_same _ _ _) (by omega) (by omega) (by omega) (by omega)).mono ?_
    rintro _ _ ⟨c', rfl, rfl, hc⟩
    have hv : t.valid = (decide (0 + (t.nodes : Int) ≤ 60) && t.shape (21 - 1)) := by
      simp only [Pf.valid]
      rw [Bool.and_comm, show (21 : Int) - 1 = 20 from rfl]
      congr 1
      simp only [decide_eq_decide]
      omega
    rw [← hv] at hc ⊢
    simp -implicitDefEqProofs only [Store.upd_upd, evb0, evb1, evb2, evb3, evb4, evb5, evb6, ↓Int.cast_ofNat_Int, implies_true, ne_eq, isMut, aFn, List.contains, List.elem, aBox, aField, aLoad, sub, aNil, aPick, aExt, aFld, gd, noJunk, plainOp, aBuildSlice, aParts, seqParts, fitAll, List.range', ↓reduceIte, reduceCtorEq, Nat.reduceEqDiff, Nat.reduceAdd, Nat.reduceLeDiff, Nat.reduceMul, Nat.reduceLT, Nat.reduceBEq, Int.reduceEq, tI_2, zI_2, underlying2, tI_3, zI_3, underlying3, tI_4, zI_4, underlying4, tI_5, zI_5, underlying5, tI_8, zI_8, fI_8_0, fI_8_1, fI_8_2, fI_8_3, bI_8, tI_13, zI_13, fI_13_0, fI_13_1, bI_13, tI_35, zI_35, fI_35_0, fI_35_1, fI_35_2, bI_35, tI_70, zI_70, tI_126, zI_126, underlying126]
    refine cond_split (fun h => ?_) (fun h => ?_)
    · simp -implicitDefEqProofs only [evb0, evb1, evb2, evb3, evb4, evb5, evb6, ↓Int.cast_ofNat_Int, implies_true, ne_eq, isMut, aFn, List.contains, List.elem, aBox, aField, aLoad, sub, aNil, aPick, aExt, aFld, gd, noJunk, plainOp, aBuildSlice, aParts, seqParts, fitAll, List.range', ↓reduceIte, reduceCtorEq, Nat.reduceEqDiff, Nat.reduceAdd, Nat.reduceLeDiff, Nat.reduceMul, Nat.reduceLT, Nat.reduceBEq, Int.reduceEq, tI_2, zI_2, underlying2, tI_3, zI_3, underlying3, tI_4, zI_4, underlying4, tI_5, zI_5, underlying5, tI_8, zI_8, fI_8_0, fI_8_1, fI_8_2, fI_8_3, bI_8, tI_13, zI_13, fI_13_0, fI_13_1, bI_13, tI_35, zI_35, fI_35_0, fI_35_1, fI_35_2, bI_35, tI_70, zI_70, tI_126, zI_126, underlying126]
      have h' : t.valid = false := by simpa using h
      exact ⟨(Drops.refl st).upd hb, by simp [h']⟩
    · have h' : t.valid = true := by simpa using h
      rw [hc h']
      simp -implicitDefEqProofs only [evb0, evb1, evb2, evb3, evb4, evb5, evb6, ↓Int.cast_ofNat_Int, implies_true, ne_eq, isMut, aFn, List.contains, List.elem, aBox, aField, aLoad, sub, aNil, aPick, aExt, aFld, gd, noJunk, plainOp, aBuildSlice, aParts, seqParts, fitAll, List.range', ↓reduceIte, reduceCtorEq, Nat.reduceEqDiff, Nat.reduceAdd, Nat.reduceLeDiff, Nat.reduceMul, Nat.reduceLT, Nat.reduceBEq, Int.reduceEq, tI_2, zI_2, underlying2, tI_3, zI_3, underlying3, tI_4, zI_4, underlying4, tI_5, zI_5, underlying5, tI_8, zI_8, fI_8_0, fI_8_1, fI_8_2, fI_8_3, bI_8, tI_13, zI_13, fI_13_0, fI_13_1, bI_13, tI_35, zI_35, fI_35_0, fI_35_1, fI_35_2, bI_35, tI_70, zI_70, tI_126, zI_126, underlying126]
      exact ⟨(Drops.refl st).upd hb, by simp [h']⟩
  exact hd.drop

theorem c_spec_ProofValid (t : Pf) (st : Store) : ACalls prog 13 [t.av] st (fun r st' => r = .bool t.valid ∧ st' = st) := by
  refine acalls_fit [] func13 ntmps13 rfl rfl (by kernel_rfl) (by decide +kernel) (by show 1 ≤ _; decide +kernel) ?_
  intro _
  simp -implicitDefEqProofs only [Pf.av_junk, Pf.av_agg, Pf.av_width, evb0, evb1, evb2, evb3, evb4, evb5, evb6, ↓Int.cast_ofNat_Int, implies_true, ne_eq, isMut, aFn, List.contains, List.elem, aBox, aField, aLoad, sub, aNil, aPick, aExt, aFld, gd, noJunk, plainOp, aBuildSlice, aParts, seqParts, fitAll, List.range', ↓reduceIte, reduceCtorEq, Nat.reduceEqDiff, Nat.reduceAdd, Nat.reduceLeDiff, Nat.reduceMul, Nat.reduceLT, Nat.reduceBEq, Int.reduceEq, tI_2, zI_2, underlying2, tI_3, zI_3, underlying3, tI_4, zI_4, underlying4, tI_6, zI_6, underlying6, tI_7, zI_7, fI_7_0, fI_7_1, fI_7_2, fI_7_3, bI_7, tI_10, zI_10, underlying10, tI_13, zI_13, fI_13_0, fI_13_1, bI_13, tI_35, zI_35, fI_35_0, fI_35_1, fI_35_2, bI_35]
  refine (c_l13Shape t 20 st (by omega) (by omega)).to ?_
  simp -implicitDefEqProofs only [evb0, evb1, evb2, evb3, evb4, evb5, evb6, ↓Int.cast_ofNat_Int, implies_true, ne_eq, isMut, aFn, List.contains, List.elem, aBox, aField, aLoad, sub, aNil, aPick, aExt, aFld, gd, noJunk, plainOp, aBuildSlice, aParts, seqParts, fitAll, List.range', ↓reduceIte, reduceCtorEq, Nat.reduceEqDiff, Nat.reduceAdd, Nat.reduceLeDiff, Nat.reduceMul, Nat.reduceLT, Nat.reduceBEq, Int.reduceEq, tI_2, zI_2, underlying2, tI_3, zI_3, underlying3, tI_4, zI_4, underlying4, tI_6, zI_6, underlying6, tI_7, zI_7, fI_7_0, fI_7_1, fI_7_2, fI_7_3, bI_7, tI_10, zI_10, underlying10, tI_13, zI_13, fI_13_0, fI_13_1, bI_13, tI_35, zI_35, fI_35_0, fI_35_1, fI_35_2, bI_35]
  refine opsG_split (fun h => ?_) (fun h => ?_)
  · simp -implicitDefEqProofs only [h, Pf.av_agg, Pf.av_width, evb0, evb1, evb2, evb3, evb4, evb5, evb6, ↓Int.cast_ofNat_Int, implies_true, ne_eq, isMut, aFn, List.contains, List.elem, aBox, aField, aLoad, sub, aNil, aPick, aExt, aFld, gd, noJunk, plainOp, aBuildSlice, aParts, seqParts, fitAll, List.range', ↓reduceIte, reduceCtorEq, Nat.reduceEqDiff, Nat.reduceAdd, Nat.reduceLeDiff, Nat.reduceMul, Nat.reduceLT, Nat.reduceBEq, Int.reduceEq, tI_2, zI_2, underlying2, tI_3, zI_3, underlying3, tI_4, zI_4, underlying4, tI_6, zI_6, underlying6, tI_7, zI_7, fI_7_0, fI_7_1, fI_7_2, fI_7_3, bI_7, tI_10, zI_10, underlying10, tI_13, zI_13, fI_13_0, fI_13_1, bI_13, tI_35, zI_35, fI_35_0, fI_35_1, fI_35_2, bI_35]
    refine (c_l13Size t 60 st (by omega) (by omega)).to ?_
    simp -implicitDefEqProofs only [h, evb0, evb1, evb2, evb3, evb4, evb5, evb6, ↓Int.cast_ofNat_Int, implies_true, ne_eq, isMut, aFn, List.contains, List.elem, aBox, aField, aLoad, sub, aNil, aPick, aExt, aFld, gd, noJunk, plainOp, aBuildSlice, aParts, seqParts, fitAll, List.range', ↓reduceIte, reduceCtorEq, Nat.reduceEqDiff, Nat.reduceAdd, Nat.reduceLeDiff, Nat.reduceMul, Nat.reduceLT, Nat.reduceBEq, Int.reduceEq, tI_2, zI_2, underlying2, tI_3, zI_3, underlying3, tI_4, zI_4, underlying4, tI_6, zI_6, underlying6, tI_7, zI_7, fI_7_0, fI_7_1, fI_7_2, fI_7_3, bI_7, tI_10, zI_10, underlying10, tI_13, zI_13, fI_13_0, fI_13_1, bI_13, tI_35, zI_35, fI_35_0, fI_35_1, fI_35_2, bI_35]
    simp only [Pf.valid, h, Bool.true_and, AV.bool.injEq, decide_eq_decide]
    omega
  · simp -implicitDefEqProofs only [h, evb0, evb1, evb2, evb3, evb4, evb5, evb6, ↓Int.cast_ofNat_Int, implies_true, ne_eq, isMut, aFn, List.contains, List.elem, aBox, aField, aLoad, sub, aNil, aPick, aExt, aFld, gd, noJunk, plainOp, aBuildSlice, aParts, seqParts, fitAll, List.range', ↓reduceIte, reduceCtorEq, Nat.reduceEqDiff, Nat.reduceAdd, Nat.reduceLeDiff, Nat.reduceMul, Nat.reduceLT, Nat.reduceBEq, Int.reduceEq, tI_2, zI_2, underlying2, tI_3, zI_3, underlying3, tI_4, zI_4, underlying4, tI_6, zI_6, underlying6, tI_7, zI_7, fI_7_0, fI_7_1, fI_7_2, fI_7_3, bI_7, tI_10, zI_10, underlying10, tI_13, zI_13, fI_13_0, fI_13_1, bI_13, tI_35, zI_35, fI_35_0, fI_35_1, fI_35_2, bI_35]
    simp at h
    simp [Pf.valid, h]

theorem c_spec_ProofSize (t : Pf) (st : Store) : ACalls prog 15 [t.av] st (fun r st' => r = .int .i64 (if t.valid then t.nodes else 0) ∧ st' = st) := by
  refine acalls_fit [] func15 ntmps15 rfl rfl (by kernel_rfl) (by decide +kernel) (by show 1 ≤ _; decide +kernel) ?_
  intro _
  simp -implicitDefEqProofs only [Pf.av_junk, Pf.av_agg, Pf.av_width, evb0, evb1, evb2, evb3, evb4, evb5, evb6, ↓Int.cast_ofNat_Int, implies_true, ne_eq, isMut, aFn, List.contains, List.elem, aBox, aField, aLoad, sub, aNil, aPick, aExt, aFld, gd, noJunk, plainOp, aBuildSlice, aParts, seqParts, fitAll, List.range', ↓reduceIte, reduceCtorEq, Nat.reduceEqDiff, Nat.reduceAdd, Nat.reduceLeDiff, Nat.reduceMul, Nat.reduceLT, Nat.reduceBEq, Int.reduceEq, tI_2, zI_2, underlying2, tI_3, zI_3, underlying3, tI_4, zI_4, underlying4, tI_6, zI_6, underlying6, tI_7, zI_7, fI_7_0, fI_7_1, fI_7_2, fI_7_3, bI_7, tI_8, zI_8, fI_8_0, fI_8_1, fI_8_2, fI_8_3, bI_8, tI_13, zI_13, fI_13_0, fI_13_1, bI_13, tI_34, zI_34, fI_34_0, fI_34_1, fI_34_2, bI_34, tI_35, zI_35, fI_35_0, fI_35_1, fI_35_2, bI_35]
  refine (c_spec_ProofValid t st).to ?_
  simp -implicitDefEqProofs only [evb0, evb1, evb2, evb3, evb4, evb5, evb6, ↓Int.cast_ofNat_Int, implies_true, ne_eq, isMut, aFn, List.contains, List.elem, aBox, aField, aLoad, sub, aNil, aPick, aExt, aFld, gd, noJunk, plainOp, aBuildSlice, aParts, seqParts, fitAll, List.range', ↓reduceIte, reduceCtorEq, Nat.reduceEqDiff, Nat.reduceAdd, Nat.reduceLeDiff, Nat.reduceMul, Nat.reduceLT, Nat.reduceBEq, Int.reduceEq, tI_2, zI_2, underlying2, tI_3, zI_3, underlying3, tI_4, zI_4, underlying4, tI_6, zI_6, underlying6, tI_7, zI_7, fI_7_0, fI_7_1, fI_7_2, fI_7_3, bI_7, tI_8, zI_8, fI_8_0, fI_8_1, fI_8_2, fI_8_3, bI_8, tI_13, zI_13, fI_13_0, fI_13_1, bI_13, tI_34, zI_34, fI_34_0, fI_34_1, fI_34_2, bI_34, tI_35, zI_35, fI_35_0, fI_35_1, fI_35_2, bI_35]
  refine cond_split (fun h => ?_) (fun h => ?_)
  · simp -implicitDefEqProofs only [evb0, evb1, evb2, evb3, evb4, evb5, evb6, ↓Int.cast_ofNat_Int, implies_true, ne_eq, isMut, aFn, List.contains, List.elem, aBox, aField, aLoad, sub, aNil, aPick, aExt, aFld, gd, noJunk, plainOp, aBuildSlice, aParts, seqParts, fitAll, List.range', ↓reduceIte, reduceCtorEq, Nat.reduceEqDiff, Nat.reduceAdd, Nat.reduceLeDiff, Nat.reduceMul, Nat.reduceLT, Nat.reduceBEq, Int.reduceEq, tI_2, zI_2, underlying2, tI_3, zI_3, underlying3, tI_4, zI_4, underlying4, tI_6, zI_6, underlying6, tI_7, zI_7, fI_7_0, fI_7_1, fI_7_2, fI_7_3, bI_7, tI_8, zI_8, fI_8_0, fI_8_1, fI_8_2, fI_8_3, bI_8, tI_13, zI_13, fI_13_0, fI_13_1, bI_13, tI_34, zI_34, fI_34_0, fI_34_1, fI_34_2, bI_34, tI_35, zI_35, fI_35_0, fI_35_1, fI_35_2, bI_35]
    simp at h
    simp [h]
  · simp -implicitDefEqProofs only [Pf.av_agg, Pf.av_width, evb0, evb1, evb2, evb3, evb4, evb5, evb6, ↓Int.cast_ofNat_Int, implies_true, ne_eq, isMut, aFn, List.contains, List.elem, aBox, aField, aLoad, sub, aNil, aPick, aExt, aFld, gd, noJunk, plainOp, aBuildSlice, aParts, seqParts, fitAll, List.range', ↓reduceIte, reduceCtorEq, Nat.reduceEqDiff, Nat.reduceAdd, Nat.reduceLeDiff, Nat.reduceMul, Nat.reduceLT, Nat.reduceBEq, Int.reduceEq, tI_2, zI_2, underlying2, tI_3, zI_3, underlying3, tI_4, zI_4, underlying4, tI_6, zI_6, underlying6, tI_7, zI_7, fI_7_0, fI_7_1, fI_7_2, fI_7_3, bI_7, tI_8, zI_8, fI_8_0, fI_8_1, fI_8_2, fI_8_3, bI_8, tI_13, zI_13, fI_13_0, fI_13_1, bI_13, tI_34, zI_34, fI_34_0, fI_34_1, fI_34_2, bI_34, tI_35, zI_35, fI_35_0, fI_35_1, fI_35_2, bI_35]
    refine (c_l13Size t 60 st (by omega) (by omega)).to ?_
    simp -implicitDefEqProofs only [evb0, evb1, evb2, evb3, evb4, evb5, evb6, ↓Int.cast_ofNat_Int, implies_true, ne_eq, isMut, aFn, List.contains, List.elem, aBox, aField, aLoad, sub, aNil, aPick, aExt, aFld, gd, noJunk, plainOp, aBuildSlice, aParts, seqParts, fitAll, List.range', ↓reduceIte, reduceCtorEq, Nat.reduceEqDiff, Nat.reduceAdd, Nat.reduceLeDiff, Nat.reduceMul, Nat.reduceLT, Nat.reduceBEq, Int.reduceEq, tI_2, zI_2, underlying2, tI_3, zI_3, underlying3, tI_4, zI_4, underlying4, tI_6, zI_6, underlying6, tI_7, zI_7, fI_7_0, fI_7_1, fI_7_2, fI_7_3, bI_7, tI_8, zI_8, fI_8_0, fI_8_1, fI_8_2, fI_8_3, bI_8, tI_13, zI_13, fI_13_0, fI_13_1, bI_13, tI_34, zI_34, fI_34_0, fI_34_1, fI_34_2, bI_34, tI_35, zI_35, fI_35_0, fI_35_1, fI_35_2, bI_35]
    simp at h
    simp only [h, if_true, AV.int.injEq, true_and]
    simp only [Pf.valid, Bool.and_eq_true, decide_eq_true_eq] at h
    omega
end Go.AW
