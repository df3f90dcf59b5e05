import Derived.Test.YtccofeljgfmplaaAgFink
import Derived.Test.YtccofeljgfmplaaAgFinl
import Derived.Test.YtccofeljgfmplaaAgFinj
import Derived.Test.YtccofeljgfmplaaAgFing
import Derived.Test.YtccofeljgfmplaaAgFini

/- Variables of lists of terms: what the functions return. -/
namespace Go.AW
open Go.Proofs.Try
set_option linter.unusedSimpArgs false
set_option maxRecDepth 100000

theorem c_varsOf (l : List Tm) (st : Store) (hsz : sumL Tm.nodes l ≤ 1099511627776) : ACalls prog 60 [.slice (l.map Tm.av)] st (fun r st' => r = .slice ((tmsVars l []).map iv) ∧ st' = st) := by
  refine ACalls.fin ?_
  refine acalls_fit [] func60 ntmps60 rfl rfl (by kernel_rfl) (by decide +kernel) (by show 1 ≤ _; decide +kernel) ?_
  simp only [fitsL, AV.fits, and_true, List.length_map]
  intro ⟨hl, _⟩
  simp -implicitDefEqProofs only [List.length_map, evb0, evb1, evb2, evb3, evb4, evb5, evb6, evb7, evb8, evb9, ↓evZ2, ↓evZ3, ↓Int.cast_ofNat_Int, implies_true, ne_eq, or_false, false_or, or_self, gt_iff_lt, isMut, aFn, List.contains, List.elem, aBox, aField, aLoad, sub, aNil, aPick, aExt, aFld, gd, noJunk, plainOp, aBuildSlice, aBuild, aFill, aParts, seqParts, fitAll, List.range', ↓reduceIte, reduceCtorEq, Nat.reduceEqDiff, Nat.reduceAdd, Nat.reduceLeDiff, Nat.reduceMul, Nat.reduceLT, Nat.reduceBEq, Int.reduceEq, tI_2, zI_2, underlying2, tI_3, zI_3, underlying3, tI_4, zI_4, underlying4, tI_5, zI_5, underlying5, tI_6, zI_6, underlying6, tI_7, zI_7, fI_7_0, fI_7_1, fI_7_2, fI_7_3, bI_7, tI_8, zI_8, fI_8_0, fI_8_1, fI_8_2, fI_8_3, bI_8, tI_12, zI_12, underlying12, tI_13, zI_13, fI_13_0, fI_13_1, bI_13, tI_14, zI_14, fI_14_0, fI_14_1, bI_14, tI_15, zI_15, tI_17, zI_17, tI_27, zI_27, eI_27, eB_27, eZ_27, underlying27, tI_41, zI_41, fI_41_0, fI_41_1, fI_41_2, fI_41_3, bI_41, tI_64, zI_64, fI_64_0, fI_64_1, bI_64, tI_93, zI_93, eI_93, eB_93, eZ_93, underlying93]
  refine arun_each (σ := List Int × Nat) [] [2, 6, 7] l (fun i p => tmsVars (l.drop i) p.1 = tmsVars l ([]) ∧ p.1.length + sumL Tm.nodes (l.drop i) ≤ 1099511627776 ∧ (p.1.map iv ≠ [] → st p.2 = none)) (fun i p => [(3, accV 1 p.2 (p.1.map iv)), (8, .int .i64 i)]) (fun _ p => accS st p.2 (p.1.map iv)) (by decide +kernel)
    ⟨([], 0), ⟨rfl, by simp; omega, by simp⟩, LessL.mk (by simp -implicitDefEqProofs only [List.length_map, List.map_nil, accV_nil, accS_nil, evb0, evb1, evb2, evb3, evb4, evb5, evb6, evb7, evb8, evb9, ↓evZ2, ↓evZ3, ↓Int.cast_ofNat_Int, implies_true, ne_eq, or_false, false_or, or_self, gt_iff_lt, isMut, aFn, List.contains, List.elem, aBox, aField, aLoad, sub, aNil, aPick, aExt, aFld, gd, noJunk, plainOp, aBuildSlice, aBuild, aFill, aParts, seqParts, fitAll, List.range', ↓reduceIte, reduceCtorEq, Nat.reduceEqDiff, Nat.reduceAdd, Nat.reduceLeDiff, Nat.reduceMul, Nat.reduceLT, Nat.reduceBEq, Int.reduceEq, tI_2, zI_2, underlying2, tI_3, zI_3, underlying3, tI_4, zI_4, underlying4, tI_5, zI_5, underlying5, tI_6, zI_6, underlying6, tI_7, zI_7, fI_7_0, fI_7_1, fI_7_2, fI_7_3, bI_7, tI_8, zI_8, fI_8_0, fI_8_1, fI_8_2, fI_8_3, bI_8, tI_12, zI_12, underlying12, tI_13, zI_13, fI_13_0, fI_13_1, bI_13, tI_14, zI_14, fI_14_0, fI_14_1, bI_14, tI_15, zI_15, tI_17, zI_17, tI_27, zI_27, eI_27, eB_27, eZ_27, underlying27, tI_41, zI_41, fI_41_0, fI_41_1, fI_41_2, fI_41_3, bI_41, tI_64, zI_64, fI_64_0, fI_64_1, bI_64, tI_93, zI_93, eI_93, eB_93, eZ_93, underlying93])⟩ (fun i x p hx hlt hlt' hdr hinv => ?_) (fun p hge hinv => ?_)
  case refine_2 =>
    simp -implicitDefEqProofs only [List.length_map, hge, evb0, evb1, evb2, evb3, evb4, evb5, evb6, evb7, evb8, evb9, ↓evZ2, ↓evZ3, ↓Int.cast_ofNat_Int, implies_true, ne_eq, or_false, false_or, or_self, gt_iff_lt, isMut, aFn, List.contains, List.elem, aBox, aField, aLoad, sub, aNil, aPick, aExt, aFld, gd, noJunk, plainOp, aBuildSlice, aBuild, aFill, aParts, seqParts, fitAll, List.range', ↓reduceIte, reduceCtorEq, Nat.reduceEqDiff, Nat.reduceAdd, Nat.reduceLeDiff, Nat.reduceMul, Nat.reduceLT, Nat.reduceBEq, Int.reduceEq, tI_2, zI_2, underlying2, tI_3, zI_3, underlying3, tI_4, zI_4, underlying4, tI_5, zI_5, underlying5, tI_6, zI_6, underlying6, tI_7, zI_7, fI_7_0, fI_7_1, fI_7_2, fI_7_3, bI_7, tI_8, zI_8, fI_8_0, fI_8_1, fI_8_2, fI_8_3, bI_8, tI_12, zI_12, underlying12, tI_13, zI_13, fI_13_0, fI_13_1, bI_13, tI_14, zI_14, fI_14_0, fI_14_1, bI_14, tI_15, zI_15, tI_17, zI_17, tI_27, zI_27, eI_27, eB_27, eZ_27, underlying27, tI_41, zI_41, fI_41_0, fI_41_1, fI_41_2, fI_41_3, bI_41, tI_64, zI_64, fI_64_0, fI_64_1, bI_64, tI_93, zI_93, eI_93, eB_93, eZ_93, underlying93]
    rw [← hinv.1, List.drop_length]
    exact ⟨p.2, p.1.map iv, st, rfl, hinv.2.2, by simp [AV.isJunk], ⟨1, iv_widths p.1⟩, accV_fin, rfl⟩
  obtain ⟨acc, b⟩ := p
  rw [hdr] at hinv
  obtain ⟨i1, i2, i3⟩ := hinv
  simp only [sumL] at i2
  have hw := wrap64 (n := (i : Int) + 1) (by omega) (by omega)
  simp -implicitDefEqProofs only [List.length_map, hlt', ev_at (av := Tm.av) eI_27 hx (Tm.av_width x), Tm.av_agg, Tm.av_width, evb0, evb1, evb2, evb3, evb4, evb5, evb6, evb7, evb8, evb9, ↓evZ2, ↓evZ3, ↓Int.cast_ofNat_Int, implies_true, ne_eq, or_false, false_or, or_self, gt_iff_lt, isMut, aFn, List.contains, List.elem, aBox, aField, aLoad, sub, aNil, aPick, aExt, aFld, gd, noJunk, plainOp, aBuildSlice, aBuild, aFill, aParts, seqParts, fitAll, List.range', ↓reduceIte, reduceCtorEq, Nat.reduceEqDiff, Nat.reduceAdd, Nat.reduceLeDiff, Nat.reduceMul, Nat.reduceLT, Nat.reduceBEq, Int.reduceEq, tI_2, zI_2, underlying2, tI_3, zI_3, underlying3, tI_4, zI_4, underlying4, tI_5, zI_5, underlying5, tI_6, zI_6, underlying6, tI_7, zI_7, fI_7_0, fI_7_1, fI_7_2, fI_7_3, bI_7, tI_8, zI_8, fI_8_0, fI_8_1, fI_8_2, fI_8_3, bI_8, tI_12, zI_12, underlying12, tI_13, zI_13, fI_13_0, fI_13_1, bI_13, tI_14, zI_14, fI_14_0, fI_14_1, bI_14, tI_15, zI_15, tI_17, zI_17, tI_27, zI_27, eI_27, eB_27, eZ_27, underlying27, tI_41, zI_41, fI_41_0, fI_41_1, fI_41_2, fI_41_3, bI_41, tI_64, zI_64, fI_64_0, fI_64_1, bI_64, tI_93, zI_93, eI_93, eB_93, eZ_93, underlying93]
  intro b2 hb2
  obtain ⟨hn2, hne⟩ := accS_none hb2
  have hset : ∀ zs : List AV, zs.length = 4 → setCells zs 0 x.av.cells = x.av.cells := fun zs h => set_all (Tm.av_cells x) h
  try simp -implicitDefEqProofs only [Store.upd_upd, hset, Tm.av_cells, Tm.av_store, take_all (Tm.av_cells x), agg_cells (Tm.av_agg x), Nat.le_refl, evb0, evb1, evb2, evb3, evb4, evb5, evb6, evb7, evb8, evb9, ↓evZ2, ↓evZ3, ↓Int.cast_ofNat_Int, implies_true, ne_eq, or_false, false_or, or_self, gt_iff_lt, isMut, aFn, List.contains, List.elem, aBox, aField, aLoad, sub, aNil, aPick, aExt, aFld, gd, noJunk, plainOp, aBuildSlice, aBuild, aFill, aParts, seqParts, fitAll, List.range', ↓reduceIte, reduceCtorEq, Nat.reduceEqDiff, Nat.reduceAdd, Nat.reduceLeDiff, Nat.reduceMul, Nat.reduceLT, Nat.reduceBEq, Int.reduceEq, tI_2, zI_2, underlying2, tI_3, zI_3, underlying3, tI_4, zI_4, underlying4, tI_5, zI_5, underlying5, tI_6, zI_6, underlying6, tI_7, zI_7, fI_7_0, fI_7_1, fI_7_2, fI_7_3, bI_7, tI_8, zI_8, fI_8_0, fI_8_1, fI_8_2, fI_8_3, bI_8, tI_12, zI_12, underlying12, tI_13, zI_13, fI_13_0, fI_13_1, bI_13, tI_14, zI_14, fI_14_0, fI_14_1, bI_14, tI_15, zI_15, tI_17, zI_17, tI_27, zI_27, eI_27, eB_27, eZ_27, underlying27, tI_41, zI_41, fI_41_0, fI_41_1, fI_41_2, fI_41_3, bI_41, tI_64, zI_64, fI_64_0, fI_64_1, bI_64, tI_93, zI_93, eI_93, eB_93, eZ_93, underlying93]
  rw [accS_upd hne]
  refine (c_addVars x acc b _ (fun h => by rw [Store.upd_ne _ _ (Ne.symm (hne h))]; exact i3 h) (by omega)).mono ?_
  rintro _ _ ⟨b', rfl, rfl, hb'⟩
  simp -implicitDefEqProofs only [hw, evb0, evb1, evb2, evb3, evb4, evb5, evb6, evb7, evb8, evb9, ↓evZ2, ↓evZ3, ↓Int.cast_ofNat_Int, implies_true, ne_eq, or_false, false_or, or_self, gt_iff_lt, isMut, aFn, List.contains, List.elem, aBox, aField, aLoad, sub, aNil, aPick, aExt, aFld, gd, noJunk, plainOp, aBuildSlice, aBuild, aFill, aParts, seqParts, fitAll, List.range', ↓reduceIte, reduceCtorEq, Nat.reduceEqDiff, Nat.reduceAdd, Nat.reduceLeDiff, Nat.reduceMul, Nat.reduceLT, Nat.reduceBEq, Int.reduceEq, tI_2, zI_2, underlying2, tI_3, zI_3, underlying3, tI_4, zI_4, underlying4, tI_5, zI_5, underlying5, tI_6, zI_6, underlying6, tI_7, zI_7, fI_7_0, fI_7_1, fI_7_2, fI_7_3, bI_7, tI_8, zI_8, fI_8_0, fI_8_1, fI_8_2, fI_8_3, bI_8, tI_12, zI_12, underlying12, tI_13, zI_13, fI_13_0, fI_13_1, bI_13, tI_14, zI_14, fI_14_0, fI_14_1, bI_14, tI_15, zI_15, tI_17, zI_17, tI_27, zI_27, eI_27, eB_27, eZ_27, underlying27, tI_41, zI_41, fI_41_0, fI_41_1, fI_41_2, fI_41_3, bI_41, tI_64, zI_64, fI_64_0, fI_64_1, bI_64, tI_93, zI_93, eI_93, eB_93, eZ_93, underlying93]
  obtain ⟨hd, hb''⟩ := accS_drop (o := .cells x.av.cells) hn2 hb'
  have hvl := Tm.vars_len x acc
  exact ⟨(x.vars acc, b'), ⟨i1, by simp only; omega, hb''⟩, LessL.drop hd (by simp -implicitDefEqProofs only [evb0, evb1, evb2, evb3, evb4, evb5, evb6, evb7, evb8, evb9, ↓evZ2, ↓evZ3, ↓Int.cast_ofNat_Int, implies_true, ne_eq, or_false, false_or, or_self, gt_iff_lt, isMut, aFn, List.contains, List.elem, aBox, aField, aLoad, sub, aNil, aPick, aExt, aFld, gd, noJunk, plainOp, aBuildSlice, aBuild, aFill, aParts, seqParts, fitAll, List.range', ↓reduceIte, reduceCtorEq, Nat.reduceEqDiff, Nat.reduceAdd, Nat.reduceLeDiff, Nat.reduceMul, Nat.reduceLT, Nat.reduceBEq, Int.reduceEq, tI_2, zI_2, underlying2, tI_3, zI_3, underlying3, tI_4, zI_4, underlying4, tI_5, zI_5, underlying5, tI_6, zI_6, underlying6, tI_7, zI_7, fI_7_0, fI_7_1, fI_7_2, fI_7_3, bI_7, tI_8, zI_8, fI_8_0, fI_8_1, fI_8_2, fI_8_3, bI_8, tI_12, zI_12, underlying12, tI_13, zI_13, fI_13_0, fI_13_1, bI_13, tI_14, zI_14, fI_14_0, fI_14_1, bI_14, tI_15, zI_15, tI_17, zI_17, tI_27, zI_27, eI_27, eB_27, eZ_27, underlying27, tI_41, zI_41, fI_41_0, fI_41_1, fI_41_2, fI_41_3, bI_41, tI_64, zI_64, fI_64_0, fI_64_1, bI_64, tI_93, zI_93, eI_93, eB_93, eZ_93, underlying93])⟩

theorem c_l1Vars : ∀ (t : Tm) (l : List Int) (b : Nat) (st : Store), t.wf = true → (l.map iv ≠ [] → st b = none) → l.length + t.nodes ≤ 1099511627776 → ACalls prog 165 [accV 1 b (l.map iv), t.av] (accS st b (l.map iv)) (Grown st (t.vars l))
  | .mk k n s ts, l, b, st, hwf, hb, hsz => by
    obtain ⟨hk, hwfs⟩ := Tm.wf_mk hwf
    have IH := fun (x : Tm) (hx : x ∈ ts) l b st => c_l1Vars x l b st (hwfs x hx)
    have haL := accV_len (w := 1) (b := b) (l := l.map iv) underlying93
    simp only [Tm.vars]
    rw [Tm.nodes_mk] at hsz
    refine acalls_fit [] func165 ntmps165 rfl rfl (by kernel_rfl) (by decide +kernel) (by show 2 ≤ _; decide +kernel) ?_
    simp only [Tm.av_mk, fitsL, AV.fits, and_true, List.length_map]
    intro ⟨_, ⟨_, _, _, hl, _⟩⟩
    simp -implicitDefEqProofs only [evb0, evb1, evb2, evb3, evb4, evb5, evb6, evb7, evb8, evb9, ↓evZ2, ↓evZ3, ↓Int.cast_ofNat_Int, implies_true, ne_eq, or_false, false_or, or_self, gt_iff_lt, isMut, aFn, List.contains, List.elem, aBox, aField, aLoad, sub, aNil, aPick, aExt, aFld, gd, noJunk, plainOp, aBuildSlice, aBuild, aFill, aParts, seqParts, fitAll, List.range', ↓reduceIte, reduceCtorEq, Nat.reduceEqDiff, Nat.reduceAdd, Nat.reduceLeDiff, Nat.reduceMul, Nat.reduceLT, Nat.reduceBEq, Int.reduceEq, tI_2, zI_2, underlying2, tI_3, zI_3, underlying3, tI_4, zI_4, underlying4, tI_5, zI_5, underlying5, tI_6, zI_6, underlying6, tI_7, zI_7, fI_7_0, fI_7_1, fI_7_2, fI_7_3, bI_7, tI_8, zI_8, fI_8_0, fI_8_1, fI_8_2, fI_8_3, bI_8, tI_9, zI_9, underlying9, tI_10, zI_10, underlying10, tI_11, zI_11, underlying11, tI_12, zI_12, underlying12, tI_23, zI_23, fI_23_0, bI_23, tI_24, zI_24, fI_24_0, bI_24, tI_27, zI_27, eI_27, eB_27, eZ_27, underlying27, tI_31, zI_31, fI_31_0, bI_31, tI_32, zI_32, fI_32_0, bI_32, tI_41, zI_41, fI_41_0, fI_41_1, fI_41_2, fI_41_3, bI_41, tI_44, zI_44, eI_44, eB_44, eZ_44, underlying44, tI_64, zI_64, fI_64_0, fI_64_1, bI_64, tI_93, zI_93, eI_93, eB_93, eZ_93, underlying93]
    refine cond_split (fun h => ?_) (fun h => ?_)
    · simp only [decide_eq_true_eq] at h
      obtain rfl := hk h
      subst h
      simp -implicitDefEqProofs only [evb0, evb1, evb2, evb3, evb4, evb5, evb6, evb7, evb8, evb9, ↓evZ2, ↓evZ3, ↓Int.cast_ofNat_Int, implies_true, ne_eq, or_false, false_or, or_self, gt_iff_lt, isMut, aFn, List.contains, List.elem, aBox, aField, aLoad, sub, aNil, aPick, aExt, aFld, gd, noJunk, plainOp, aBuildSlice, aBuild, aFill, aParts, seqParts, fitAll, List.range', ↓reduceIte, reduceCtorEq, Nat.reduceEqDiff, Nat.reduceAdd, Nat.reduceLeDiff, Nat.reduceMul, Nat.reduceLT, Nat.reduceBEq, Int.reduceEq, tI_2, zI_2, underlying2, tI_3, zI_3, underlying3, tI_4, zI_4, underlying4, tI_5, zI_5, underlying5, tI_6, zI_6, underlying6, tI_7, zI_7, fI_7_0, fI_7_1, fI_7_2, fI_7_3, bI_7, tI_8, zI_8, fI_8_0, fI_8_1, fI_8_2, fI_8_3, bI_8, tI_9, zI_9, underlying9, tI_10, zI_10, underlying10, tI_11, zI_11, underlying11, tI_12, zI_12, underlying12, tI_23, zI_23, fI_23_0, bI_23, tI_24, zI_24, fI_24_0, bI_24, tI_27, zI_27, eI_27, eB_27, eZ_27, underlying27, tI_31, zI_31, fI_31_0, bI_31, tI_32, zI_32, fI_32_0, bI_32, tI_41, zI_41, fI_41_0, fI_41_1, fI_41_2, fI_41_3, bI_41, tI_44, zI_44, eI_44, eB_44, eZ_44, underlying44, tI_64, zI_64, fI_64_0, fI_64_1, bI_64, tI_93, zI_93, eI_93, eB_93, eZ_93, underlying93]
      have hnn : l.length ≤ 1099511627776 := by omega
      refine arun_each (σ := Unit) [] [0, 3] l (fun i _ => ∀ y ∈ l.take i, y ≠ n) (fun i _ => [(5, .int .i64 i)]) (fun _ _ => accS st b (l.map iv)) (by decide +kernel) ⟨(), by simp, LessL.mk (by simp -implicitDefEqProofs only [evb0, evb1, evb2, evb3, evb4, evb5, evb6, evb7, evb8, evb9, ↓evZ2, ↓evZ3, ↓Int.cast_ofNat_Int, implies_true, ne_eq, or_false, false_or, or_self, gt_iff_lt, isMut, aFn, List.contains, List.elem, aBox, aField, aLoad, sub, aNil, aPick, aExt, aFld, gd, noJunk, plainOp, aBuildSlice, aBuild, aFill, aParts, seqParts, fitAll, List.range', ↓reduceIte, reduceCtorEq, Nat.reduceEqDiff, Nat.reduceAdd, Nat.reduceLeDiff, Nat.reduceMul, Nat.reduceLT, Nat.reduceBEq, Int.reduceEq, tI_2, zI_2, underlying2, tI_3, zI_3, underlying3, tI_4, zI_4, underlying4, tI_5, zI_5, underlying5, tI_6, zI_6, underlying6, tI_7, zI_7, fI_7_0, fI_7_1, fI_7_2, fI_7_3, bI_7, tI_8, zI_8, fI_8_0, fI_8_1, fI_8_2, fI_8_3, bI_8, tI_9, zI_9, underlying9, tI_10, zI_10, underlying10, tI_11, zI_11, underlying11, tI_12, zI_12, underlying12, tI_23, zI_23, fI_23_0, bI_23, tI_24, zI_24, fI_24_0, bI_24, tI_27, zI_27, eI_27, eB_27, eZ_27, underlying27, tI_31, zI_31, fI_31_0, bI_31, tI_32, zI_32, fI_32_0, bI_32, tI_41, zI_41, fI_41_0, fI_41_1, fI_41_2, fI_41_3, bI_41, tI_44, zI_44, eI_44, eB_44, eZ_44, underlying44, tI_64, zI_64, fI_64_0, fI_64_1, bI_64, tI_93, zI_93, eI_93, eB_93, eZ_93, underlying93])⟩ (fun i x _ hx hlt hlt' hdr hinv => ?_) (fun _ hge hinv => ?_)
      case refine_2 =>
        rw [List.take_length] at hinv
        have hmem : n ∉ l := fun h => hinv n h rfl
        simp -implicitDefEqProofs only [haL, List.length_map, hge, evb0, evb1, evb2, evb3, evb4, evb5, evb6, evb7, evb8, evb9, ↓evZ2, ↓evZ3, ↓Int.cast_ofNat_Int, implies_true, ne_eq, or_false, false_or, or_self, gt_iff_lt, isMut, aFn, List.contains, List.elem, aBox, aField, aLoad, sub, aNil, aPick, aExt, aFld, gd, noJunk, plainOp, aBuildSlice, aBuild, aFill, aParts, seqParts, fitAll, List.range', ↓reduceIte, reduceCtorEq, Nat.reduceEqDiff, Nat.reduceAdd, Nat.reduceLeDiff, Nat.reduceMul, Nat.reduceLT, Nat.reduceBEq, Int.reduceEq, tI_2, zI_2, underlying2, tI_3, zI_3, underlying3, tI_4, zI_4, underlying4, tI_5, zI_5, underlying5, tI_6, zI_6, underlying6, tI_7, zI_7, fI_7_0, fI_7_1, fI_7_2, fI_7_3, bI_7, tI_8, zI_8, fI_8_0, fI_8_1, fI_8_2, fI_8_3, bI_8, tI_9, zI_9, underlying9, tI_10, zI_10, underlying10, tI_11, zI_11, underlying11, tI_12, zI_12, underlying12, tI_23, zI_23, fI_23_0, bI_23, tI_24, zI_24, fI_24_0, bI_24, tI_27, zI_27, eI_27, eB_27, eZ_27, underlying27, tI_31, zI_31, fI_31_0, bI_31, tI_32, zI_32, fI_32_0, bI_32, tI_41, zI_41, fI_41_0, fI_41_1, fI_41_2, fI_41_3, bI_41, tI_44, zI_44, eI_44, eB_44, eZ_44, underlying44, tI_64, zI_64, fI_64_0, fI_64_1, bI_64, tI_93, zI_93, eI_93, eB_93, eZ_93, underlying93]
        refine acc_append eI_93 eB_93 eZ_93 rfl rfl (by intro e he; simp only [List.mem_cons, List.not_mem_nil, or_false] at he; subst he; exact ⟨rfl, rfl⟩) (iv_widths l) hb (by simp; omega) (by simp; omega) (fun b' hb' => ?_)
        rw [show l.map iv ++ [AV.int .i64 n] = (l ++ [n]).map iv by simp] at hb' ⊢
        simp -implicitDefEqProofs only [evb0, evb1, evb2, evb3, evb4, evb5, evb6, evb7, evb8, evb9, ↓evZ2, ↓evZ3, ↓Int.cast_ofNat_Int, implies_true, ne_eq, or_false, false_or, or_self, gt_iff_lt, isMut, aFn, List.contains, List.elem, aBox, aField, aLoad, sub, aNil, aPick, aExt, aFld, gd, noJunk, plainOp, aBuildSlice, aBuild, aFill, aParts, seqParts, fitAll, List.range', ↓reduceIte, reduceCtorEq, Nat.reduceEqDiff, Nat.reduceAdd, Nat.reduceLeDiff, Nat.reduceMul, Nat.reduceLT, Nat.reduceBEq, Int.reduceEq, tI_2, zI_2, underlying2, tI_3, zI_3, underlying3, tI_4, zI_4, underlying4, tI_5, zI_5, underlying5, tI_6, zI_6, underlying6, tI_7, zI_7, fI_7_0, fI_7_1, fI_7_2, fI_7_3, bI_7, tI_8, zI_8, fI_8_0, fI_8_1, fI_8_2, fI_8_3, bI_8, tI_9, zI_9, underlying9, tI_10, zI_10, underlying10, tI_11, zI_11, underlying11, tI_12, zI_12, underlying12, tI_23, zI_23, fI_23_0, bI_23, tI_24, zI_24, fI_24_0, bI_24, tI_27, zI_27, eI_27, eB_27, eZ_27, underlying27, tI_31, zI_31, fI_31_0, bI_31, tI_32, zI_32, fI_32_0, bI_32, tI_41, zI_41, fI_41_0, fI_41_1, fI_41_2, fI_41_3, bI_41, tI_44, zI_44, eI_44, eB_44, eZ_44, underlying44, tI_64, zI_64, fI_64_0, fI_64_1, bI_64, tI_93, zI_93, eI_93, eB_93, eZ_93, underlying93]
        exact ⟨b', by simp [tmsVars, hmem], by simp [tmsVars, hmem], by simp only [tmsVars, hmem, not_false_eq_true, and_self, if_true]; exact hb'⟩
      have hat := acc_at (b := b) (l := l.map iv) (i := i) (x := iv x) eI_93 (by rw [List.getElem?_map, hx]; rfl)
      obtain ⟨hblk, hget⟩ := acc_blk (st := st) (b := b) hx
      have hw := wrap64 (n := (i : Int) + 1) (by omega) (by omega)
      simp -implicitDefEqProofs only [haL, List.length_map, hlt', evb0, evb1, evb2, evb3, evb4, evb5, evb6, evb7, evb8, evb9, ↓evZ2, ↓evZ3, ↓Int.cast_ofNat_Int, implies_true, ne_eq, or_false, false_or, or_self, gt_iff_lt, isMut, aFn, List.contains, List.elem, aBox, aField, aLoad, sub, aNil, aPick, aExt, aFld, gd, noJunk, plainOp, aBuildSlice, aBuild, aFill, aParts, seqParts, fitAll, List.range', ↓reduceIte, reduceCtorEq, Nat.reduceEqDiff, Nat.reduceAdd, Nat.reduceLeDiff, Nat.reduceMul, Nat.reduceLT, Nat.reduceBEq, Int.reduceEq, tI_2, zI_2, underlying2, tI_3, zI_3, underlying3, tI_4, zI_4, underlying4, tI_5, zI_5, underlying5, tI_6, zI_6, underlying6, tI_7, zI_7, fI_7_0, fI_7_1, fI_7_2, fI_7_3, bI_7, tI_8, zI_8, fI_8_0, fI_8_1, fI_8_2, fI_8_3, bI_8, tI_9, zI_9, underlying9, tI_10, zI_10, underlying10, tI_11, zI_11, underlying11, tI_12, zI_12, underlying12, tI_23, zI_23, fI_23_0, bI_23, tI_24, zI_24, fI_24_0, bI_24, tI_27, zI_27, eI_27, eB_27, eZ_27, underlying27, tI_31, zI_31, fI_31_0, bI_31, tI_32, zI_32, fI_32_0, bI_32, tI_41, zI_41, fI_41_0, fI_41_1, fI_41_2, fI_41_3, bI_41, tI_44, zI_44, eI_44, eB_44, eZ_44, underlying44, tI_64, zI_64, fI_64_0, fI_64_1, bI_64, tI_93, zI_93, eI_93, eB_93, eZ_93, underlying93]
      refine arun_drawA mixed (by decide +kernel) (by decide +kernel) ?_
      simp -implicitDefEqProofs only [hat, hblk, hget, Nat.mul_one, evb0, evb1, evb2, evb3, evb4, evb5, evb6, evb7, evb8, evb9, ↓evZ2, ↓evZ3, ↓Int.cast_ofNat_Int, implies_true, ne_eq, or_false, false_or, or_self, gt_iff_lt, isMut, aFn, List.contains, List.elem, aBox, aField, aLoad, sub, aNil, aPick, aExt, aFld, gd, noJunk, plainOp, aBuildSlice, aBuild, aFill, aParts, seqParts, fitAll, List.range', ↓reduceIte, reduceCtorEq, Nat.reduceEqDiff, Nat.reduceAdd, Nat.reduceLeDiff, Nat.reduceMul, Nat.reduceLT, Nat.reduceBEq, Int.reduceEq, tI_2, zI_2, underlying2, tI_3, zI_3, underlying3, tI_4, zI_4, underlying4, tI_5, zI_5, underlying5, tI_6, zI_6, underlying6, tI_7, zI_7, fI_7_0, fI_7_1, fI_7_2, fI_7_3, bI_7, tI_8, zI_8, fI_8_0, fI_8_1, fI_8_2, fI_8_3, bI_8, tI_9, zI_9, underlying9, tI_10, zI_10, underlying10, tI_11, zI_11, underlying11, tI_12, zI_12, underlying12, tI_23, zI_23, fI_23_0, bI_23, tI_24, zI_24, fI_24_0, bI_24, tI_27, zI_27, eI_27, eB_27, eZ_27, underlying27, tI_31, zI_31, fI_31_0, bI_31, tI_32, zI_32, fI_32_0, bI_32, tI_41, zI_41, fI_41_0, fI_41_1, fI_41_2, fI_41_3, bI_41, tI_44, zI_44, eI_44, eB_44, eZ_44, underlying44, tI_64, zI_64, fI_64_0, fI_64_1, bI_64, tI_93, zI_93, eI_93, eB_93, eZ_93, underlying93]
      refine cond_split (fun h => ?_) (fun h => ?_)
      · simp only [decide_eq_true_eq] at h
        subst h
        have hmem := List.mem_of_getElem? hx
        simp -implicitDefEqProofs only [evb0, evb1, evb2, evb3, evb4, evb5, evb6, evb7, evb8, evb9, ↓evZ2, ↓evZ3, ↓Int.cast_ofNat_Int, implies_true, ne_eq, or_false, false_or, or_self, gt_iff_lt, isMut, aFn, List.contains, List.elem, aBox, aField, aLoad, sub, aNil, aPick, aExt, aFld, gd, noJunk, plainOp, aBuildSlice, aBuild, aFill, aParts, seqParts, fitAll, List.range', ↓reduceIte, reduceCtorEq, Nat.reduceEqDiff, Nat.reduceAdd, Nat.reduceLeDiff, Nat.reduceMul, Nat.reduceLT, Nat.reduceBEq, Int.reduceEq, tI_2, zI_2, underlying2, tI_3, zI_3, underlying3, tI_4, zI_4, underlying4, tI_5, zI_5, underlying5, tI_6, zI_6, underlying6, tI_7, zI_7, fI_7_0, fI_7_1, fI_7_2, fI_7_3, bI_7, tI_8, zI_8, fI_8_0, fI_8_1, fI_8_2, fI_8_3, bI_8, tI_9, zI_9, underlying9, tI_10, zI_10, underlying10, tI_11, zI_11, underlying11, tI_12, zI_12, underlying12, tI_23, zI_23, fI_23_0, bI_23, tI_24, zI_24, fI_24_0, bI_24, tI_27, zI_27, eI_27, eB_27, eZ_27, underlying27, tI_31, zI_31, fI_31_0, bI_31, tI_32, zI_32, fI_32_0, bI_32, tI_41, zI_41, fI_41_0, fI_41_1, fI_41_2, fI_41_3, bI_41, tI_44, zI_44, eI_44, eB_44, eZ_44, underlying44, tI_64, zI_64, fI_64_0, fI_64_1, bI_64, tI_93, zI_93, eI_93, eB_93, eZ_93, underlying93]
        exact ⟨b, by simp [tmsVars, hmem], by simp [tmsVars, hmem], by simp only [tmsVars, hmem, not_true_eq_false, and_false, if_false]; exact hb⟩
      · simp only [decide_eq_false_iff_not] at h
        simp -implicitDefEqProofs only [evb0, evb1, evb2, evb3, evb4, evb5, evb6, evb7, evb8, evb9, ↓evZ2, ↓evZ3, ↓Int.cast_ofNat_Int, implies_true, ne_eq, or_false, false_or, or_self, gt_iff_lt, isMut, aFn, List.contains, List.elem, aBox, aField, aLoad, sub, aNil, aPick, aExt, aFld, gd, noJunk, plainOp, aBuildSlice, aBuild, aFill, aParts, seqParts, fitAll, List.range', ↓reduceIte, reduceCtorEq, Nat.reduceEqDiff, Nat.reduceAdd, Nat.reduceLeDiff, Nat.reduceMul, Nat.reduceLT, Nat.reduceBEq, Int.reduceEq, tI_2, zI_2, underlying2, tI_3, zI_3, underlying3, tI_4, zI_4, underlying4, tI_5, zI_5, underlying5, tI_6, zI_6, underlying6, tI_7, zI_7, fI_7_0, fI_7_1, fI_7_2, fI_7_3, bI_7, tI_8, zI_8, fI_8_0, fI_8_1, fI_8_2, fI_8_3, bI_8, tI_9, zI_9, underlying9, tI_10, zI_10, underlying10, tI_11, zI_11, underlying11, tI_12, zI_12, underlying12, tI_23, zI_23, fI_23_0, bI_23, tI_24, zI_24, fI_24_0, bI_24, tI_27, zI_27, eI_27, eB_27, eZ_27, underlying27, tI_31, zI_31, fI_31_0, bI_31, tI_32, zI_32, fI_32_0, bI_32, tI_41, zI_41, fI_41_0, fI_41_1, fI_41_2, fI_41_3, bI_41, tI_44, zI_44, eI_44, eB_44, eZ_44, underlying44, tI_64, zI_64, fI_64_0, fI_64_1, bI_64, tI_93, zI_93, eI_93, eB_93, eZ_93, underlying93]
        refine ⟨(), ?_, LessL.mk (by simp -implicitDefEqProofs only [hw, evb0, evb1, evb2, evb3, evb4, evb5, evb6, evb7, evb8, evb9, ↓evZ2, ↓evZ3, ↓Int.cast_ofNat_Int, implies_true, ne_eq, or_false, false_or, or_self, gt_iff_lt, isMut, aFn, List.contains, List.elem, aBox, aField, aLoad, sub, aNil, aPick, aExt, aFld, gd, noJunk, plainOp, aBuildSlice, aBuild, aFill, aParts, seqParts, fitAll, List.range', ↓reduceIte, reduceCtorEq, Nat.reduceEqDiff, Nat.reduceAdd, Nat.reduceLeDiff, Nat.reduceMul, Nat.reduceLT, Nat.reduceBEq, Int.reduceEq, tI_2, zI_2, underlying2, tI_3, zI_3, underlying3, tI_4, zI_4, underlying4, tI_5, zI_5, underlying5, tI_6, zI_6, underlying6, tI_7, zI_7, fI_7_0, fI_7_1, fI_7_2, fI_7_3, bI_7, tI_8, zI_8, fI_8_0, fI_8_1, fI_8_2, fI_8_3, bI_8, tI_9, zI_9, underlying9, tI_10, zI_10, underlying10, tI_11, zI_11, underlying11, tI_12, zI_12, underlying12, tI_23, zI_23, fI_23_0, bI_23, tI_24, zI_24, fI_24_0, bI_24, tI_27, zI_27, eI_27, eB_27, eZ_27, underlying27, tI_31, zI_31, fI_31_0, bI_31, tI_32, zI_32, fI_32_0, bI_32, tI_41, zI_41, fI_41_0, fI_41_1, fI_41_2, fI_41_3, bI_41, tI_44, zI_44, eI_44, eB_44, eZ_44, underlying44, tI_64, zI_64, fI_64_0, fI_64_1, bI_64, tI_93, zI_93, eI_93, eB_93, eZ_93, underlying93])⟩
        intro y hy
        rw [List.take_add_one, hx] at hy
        rcases List.mem_append.1 hy with hy | hy
        · exact hinv y hy
        · simp at hy; subst hy; exact h
    · simp only [decide_eq_false_iff_not] at h
      rw [if_neg (by simp [h])]
      simp -implicitDefEqProofs only [evb0, evb1, evb2, evb3, evb4, evb5, evb6, evb7, evb8, evb9, ↓evZ2, ↓evZ3, ↓Int.cast_ofNat_Int, implies_true, ne_eq, or_false, false_or, or_self, gt_iff_lt, isMut, aFn, List.contains, List.elem, aBox, aField, aLoad, sub, aNil, aPick, aExt, aFld, gd, noJunk, plainOp, aBuildSlice, aBuild, aFill, aParts, seqParts, fitAll, List.range', ↓reduceIte, reduceCtorEq, Nat.reduceEqDiff, Nat.reduceAdd, Nat.reduceLeDiff, Nat.reduceMul, Nat.reduceLT, Nat.reduceBEq, Int.reduceEq, tI_2, zI_2, underlying2, tI_3, zI_3, underlying3, tI_4, zI_4, underlying4, tI_5, zI_5, underlying5, tI_6, zI_6, underlying6, tI_7, zI_7, fI_7_0, fI_7_1, fI_7_2, fI_7_3, bI_7, tI_8, zI_8, fI_8_0, fI_8_1, fI_8_2, fI_8_3, bI_8, tI_9, zI_9, underlying9, tI_10, zI_10, underlying10, tI_11, zI_11, underlying11, tI_12, zI_12, underlying12, tI_23, zI_23, fI_23_0, bI_23, tI_24, zI_24, fI_24_0, bI_24, tI_27, zI_27, eI_27, eB_27, eZ_27, underlying27, tI_31, zI_31, fI_31_0, bI_31, tI_32, zI_32, fI_32_0, bI_32, tI_41, zI_41, fI_41_0, fI_41_1, fI_41_2, fI_41_3, bI_41, tI_44, zI_44, eI_44, eB_44, eZ_44, underlying44, tI_64, zI_64, fI_64_0, fI_64_1, bI_64, tI_93, zI_93, eI_93, eB_93, eZ_93, underlying93]
      refine arun_each (σ := List Int × Nat) [] [3, 4] ts (fun i p => tmsVars (ts.drop i) p.1 = tmsVars ts l ∧ p.1.length + sumL Tm.nodes (ts.drop i) ≤ 1099511627776 ∧ (p.1.map iv ≠ [] → st p.2 = none)) (fun i p => [(0, accV 1 p.2 (p.1.map iv)), (6, .int .i64 i)]) (fun _ p => accS st p.2 (p.1.map iv)) (by decide +kernel)
        ⟨(l, b), ⟨rfl, by simp; omega, hb⟩, LessL.mk (by simp -implicitDefEqProofs only [List.length_map, evb0, evb1, evb2, evb3, evb4, evb5, evb6, evb7, evb8, evb9, ↓evZ2, ↓evZ3, ↓Int.cast_ofNat_Int, implies_true, ne_eq, or_false, false_or, or_self, gt_iff_lt, isMut, aFn, List.contains, List.elem, aBox, aField, aLoad, sub, aNil, aPick, aExt, aFld, gd, noJunk, plainOp, aBuildSlice, aBuild, aFill, aParts, seqParts, fitAll, List.range', ↓reduceIte, reduceCtorEq, Nat.reduceEqDiff, Nat.reduceAdd, Nat.reduceLeDiff, Nat.reduceMul, Nat.reduceLT, Nat.reduceBEq, Int.reduceEq, tI_2, zI_2, underlying2, tI_3, zI_3, underlying3, tI_4, zI_4, underlying4, tI_5, zI_5, underlying5, tI_6, zI_6, underlying6, tI_7, zI_7, fI_7_0, fI_7_1, fI_7_2, fI_7_3, bI_7, tI_8, zI_8, fI_8_0, fI_8_1, fI_8_2, fI_8_3, bI_8, tI_9, zI_9, underlying9, tI_10, zI_10, underlying10, tI_11, zI_11, underlying11, tI_12, zI_12, underlying12, tI_23, zI_23, fI_23_0, bI_23, tI_24, zI_24, fI_24_0, bI_24, tI_27, zI_27, eI_27, eB_27, eZ_27, underlying27, tI_31, zI_31, fI_31_0, bI_31, tI_32, zI_32, fI_32_0, bI_32, tI_41, zI_41, fI_41_0, fI_41_1, fI_41_2, fI_41_3, bI_41, tI_44, zI_44, eI_44, eB_44, eZ_44, underlying44, tI_64, zI_64, fI_64_0, fI_64_1, bI_64, tI_93, zI_93, eI_93, eB_93, eZ_93, underlying93])⟩ (fun i x p hx hlt hlt' hdr hinv => ?_) (fun p hge hinv => ?_)
      case refine_2 =>
        simp -implicitDefEqProofs only [List.length_map, hge, evb0, evb1, evb2, evb3, evb4, evb5, evb6, evb7, evb8, evb9, ↓evZ2, ↓evZ3, ↓Int.cast_ofNat_Int, implies_true, ne_eq, or_false, false_or, or_self, gt_iff_lt, isMut, aFn, List.contains, List.elem, aBox, aField, aLoad, sub, aNil, aPick, aExt, aFld, gd, noJunk, plainOp, aBuildSlice, aBuild, aFill, aParts, seqParts, fitAll, List.range', ↓reduceIte, reduceCtorEq, Nat.reduceEqDiff, Nat.reduceAdd, Nat.reduceLeDiff, Nat.reduceMul, Nat.reduceLT, Nat.reduceBEq, Int.reduceEq, tI_2, zI_2, underlying2, tI_3, zI_3, underlying3, tI_4, zI_4, underlying4, tI_5, zI_5, underlying5, tI_6, zI_6, underlying6, tI_7, zI_7, fI_7_0, fI_7_1, fI_7_2, fI_7_3, bI_7, tI_8, zI_8, fI_8_0, fI_8_1, fI_8_2, fI_8_3, bI_8, tI_9, zI_9, underlying9, tI_10, zI_10, underlying10, tI_11, zI_11, underlying11, tI_12, zI_12, underlying12, tI_23, zI_23, fI_23_0, bI_23, tI_24, zI_24, fI_24_0, bI_24, tI_27, zI_27, eI_27, eB_27, eZ_27, underlying27, tI_31, zI_31, fI_31_0, bI_31, tI_32, zI_32, fI_32_0, bI_32, tI_41, zI_41, fI_41_0, fI_41_1, fI_41_2, fI_41_3, bI_41, tI_44, zI_44, eI_44, eB_44, eZ_44, underlying44, tI_64, zI_64, fI_64_0, fI_64_1, bI_64, tI_93, zI_93, eI_93, eB_93, eZ_93, underlying93]
        rw [← hinv.1, List.drop_length]
        exact ⟨p.2, rfl, rfl, hinv.2.2⟩
      obtain ⟨acc, b⟩ := p
      rw [hdr] at hinv
      obtain ⟨i1, i2, i3⟩ := hinv
      simp only [sumL] at i2
      have hw := wrap64 (n := (i : Int) + 1) (by omega) (by omega)
      simp -implicitDefEqProofs only [List.length_map, hlt', ev_at (av := Tm.av) eI_27 hx (Tm.av_width x), Tm.av_agg, Tm.av_width, evb0, evb1, evb2, evb3, evb4, evb5, evb6, evb7, evb8, evb9, ↓evZ2, ↓evZ3, ↓Int.cast_ofNat_Int, implies_true, ne_eq, or_false, false_or, or_self, gt_iff_lt, isMut, aFn, List.contains, List.elem, aBox, aField, aLoad, sub, aNil, aPick, aExt, aFld, gd, noJunk, plainOp, aBuildSlice, aBuild, aFill, aParts, seqParts, fitAll, List.range', ↓reduceIte, reduceCtorEq, Nat.reduceEqDiff, Nat.reduceAdd, Nat.reduceLeDiff, Nat.reduceMul, Nat.reduceLT, Nat.reduceBEq, Int.reduceEq, tI_2, zI_2, underlying2, tI_3, zI_3, underlying3, tI_4, zI_4, underlying4, tI_5, zI_5, underlying5, tI_6, zI_6, underlying6, tI_7, zI_7, fI_7_0, fI_7_1, fI_7_2, fI_7_3, bI_7, tI_8, zI_8, fI_8_0, fI_8_1, fI_8_2, fI_8_3, bI_8, tI_9, zI_9, underlying9, tI_10, zI_10, underlying10, tI_11, zI_11, underlying11, tI_12, zI_12, underlying12, tI_23, zI_23, fI_23_0, bI_23, tI_24, zI_24, fI_24_0, bI_24, tI_27, zI_27, eI_27, eB_27, eZ_27, underlying27, tI_31, zI_31, fI_31_0, bI_31, tI_32, zI_32, fI_32_0, bI_32, tI_41, zI_41, fI_41_0, fI_41_1, fI_41_2, fI_41_3, bI_41, tI_44, zI_44, eI_44, eB_44, eZ_44, underlying44, tI_64, zI_64, fI_64_0, fI_64_1, bI_64, tI_93, zI_93, eI_93, eB_93, eZ_93, underlying93]
      refine (IH x (List.mem_of_getElem? hx) acc b st i3 (by omega)).mono ?_
      rintro _ _ ⟨b', rfl, rfl, hb'⟩
      have hvl := Tm.vars_len x acc
      simp -implicitDefEqProofs only [hw, evb0, evb1, evb2, evb3, evb4, evb5, evb6, evb7, evb8, evb9, ↓evZ2, ↓evZ3, ↓Int.cast_ofNat_Int, implies_true, ne_eq, or_false, false_or, or_self, gt_iff_lt, isMut, aFn, List.contains, List.elem, aBox, aField, aLoad, sub, aNil, aPick, aExt, aFld, gd, noJunk, plainOp, aBuildSlice, aBuild, aFill, aParts, seqParts, fitAll, List.range', ↓reduceIte, reduceCtorEq, Nat.reduceEqDiff, Nat.reduceAdd, Nat.reduceLeDiff, Nat.reduceMul, Nat.reduceLT, Nat.reduceBEq, Int.reduceEq, tI_2, zI_2, underlying2, tI_3, zI_3, underlying3, tI_4, zI_4, underlying4, tI_5, zI_5, underlying5, tI_6, zI_6, underlying6, tI_7, zI_7, fI_7_0, fI_7_1, fI_7_2, fI_7_3, bI_7, tI_8, zI_8, fI_8_0, fI_8_1, fI_8_2, fI_8_3, bI_8, tI_9, zI_9, underlying9, tI_10, zI_10, underlying10, tI_11, zI_11, underlying11, tI_12, zI_12, underlying12, tI_23, zI_23, fI_23_0, bI_23, tI_24, zI_24, fI_24_0, bI_24, tI_27, zI_27, eI_27, eB_27, eZ_27, underlying27, tI_31, zI_31, fI_31_0, bI_31, tI_32, zI_32, fI_32_0, bI_32, tI_41, zI_41, fI_41_0, fI_41_1, fI_41_2, fI_41_3, bI_41, tI_44, zI_44, eI_44, eB_44, eZ_44, underlying44, tI_64, zI_64, fI_64_0, fI_64_1, bI_64, tI_93, zI_93, eI_93, eB_93, eZ_93, underlying93]
      exact ⟨(x.vars acc, b'), ⟨i1, by simp only; omega, hb'⟩, LessL.mk (by simp -implicitDefEqProofs only [evb0, evb1, evb2, evb3, evb4, evb5, evb6, evb7, evb8, evb9, ↓evZ2, ↓evZ3, ↓Int.cast_ofNat_Int, implies_true, ne_eq, or_false, false_or, or_self, gt_iff_lt, isMut, aFn, List.contains, List.elem, aBox, aField, aLoad, sub, aNil, aPick, aExt, aFld, gd, noJunk, plainOp, aBuildSlice, aBuild, aFill, aParts, seqParts, fitAll, List.range', ↓reduceIte, reduceCtorEq, Nat.reduceEqDiff, Nat.reduceAdd, Nat.reduceLeDiff, Nat.reduceMul, Nat.reduceLT, Nat.reduceBEq, Int.reduceEq, tI_2, zI_2, underlying2, tI_3, zI_3, underlying3, tI_4, zI_4, underlying4, tI_5, zI_5, underlying5, tI_6, zI_6, underlying6, tI_7, zI_7, fI_7_0, fI_7_1, fI_7_2, fI_7_3, bI_7, tI_8, zI_8, fI_8_0, fI_8_1, fI_8_2, fI_8_3, bI_8, tI_9, zI_9, underlying9, tI_10, zI_10, underlying10, tI_11, zI_11, underlying11, tI_12, zI_12, underlying12, tI_23, zI_23, fI_23_0, bI_23, tI_24, zI_24, fI_24_0, bI_24, tI_27, zI_27, eI_27, eB_27, eZ_27, underlying27, tI_31, zI_31, fI_31_0, bI_31, tI_32, zI_32, fI_32_0, bI_32, tI_41, zI_41, fI_41_0, fI_41_1, fI_41_2, fI_41_3, bI_41, tI_44, zI_44, eI_44, eB_44, eZ_44, underlying44, tI_64, zI_64, fI_64_0, fI_64_1, bI_64, tI_93, zI_93, eI_93, eB_93, eZ_93, underlying93])⟩
termination_by t => SizeOf.sizeOf t
decreasing_by have := List.sizeOf_lt_of_mem hx; simp only [Tm.mk.sizeOf_spec]; omega
end Go.AW

/- A struct's list that grows in its memory. -/
namespace Go.AW
set_option linter.unusedSimpArgs false
/-- The struct in block c, with a list that grows in block b. -/
def kidS (S : Store) (c b : Nat) (hd : List AV) (l : List AV) : Store := accS (S.upd c (.cells (hd ++ [accV 4 b l]))) b l
theorem kidS_c {S : Store} {c b : Nat} {hd l : List AV} (hb : l ≠ [] → (S.upd c (.cells (hd ++ [accV 4 b l]))) b = none) : kidS S c b hd l c = some (.cells (hd ++ [accV 4 b l])) := by
  unfold kidS
  cases l with
  | nil => simp only [accS, Store.upd_same]
  | cons y l =>
    have h := hb (by simp)
    have hne : c ≠ b := fun e => by rw [← e, Store.upd_same] at h; cases h
    rw [accS_ne hne, Store.upd_same]
theorem kidS_set {S : Store} {c b b' : Nat} {hd l l' : List AV} (hb : l' ≠ [] → (S.upd c (.cells (hd ++ [accV 4 b l]))) b' = none) :
    (accS (S.upd c (.cells (hd ++ [accV 4 b l]))) b' l').upd c (.cells (hd ++ [accV 4 b' l'])) = kidS S c b' hd l' ∧ (l' ≠ [] → (S.upd c (.cells (hd ++ [accV 4 b' l']))) b' = none) ∧ accS (S.upd c (.cells (hd ++ [accV 4 b l]))) b' l' c = some (.cells (hd ++ [accV 4 b l])) := by
  have hne : l' ≠ [] → c ≠ b' := fun h e => by have := hb h; rw [← e, Store.upd_same] at this; cases this
  refine ⟨?_, fun h => ?_, ?_⟩
  · rw [accS_upd hne, Store.upd_upd]; rfl
  · have := hb h
    rw [Store.upd_ne _ _ (Ne.symm (hne h))] at this ⊢
    exact this
  · cases l' with
    | nil => simp only [accS, Store.upd_same]
    | cons y l => rw [accS_ne (hne (by simp)), Store.upd_same]
theorem kidS_ne {S : Store} {c b x : Nat} {hd l : List AV} (hb : l ≠ [] → (S.upd c (.cells (hd ++ [accV 4 b l]))) b = none) (hx : S x ≠ none) (hxc : x ≠ c) : kidS S c b hd l x = S x := by
  unfold kidS
  cases l with
  | nil => simp only [accS, Store.upd_ne _ _ hxc]
  | cons y l =>
    have h := hb (by simp)
    have hne : x ≠ b := fun e => by
      rw [← e, Store.upd_ne _ _ hxc] at h
      exact hx h
    rw [accS_ne hne, Store.upd_ne _ _ hxc]
theorem kidS_upd {S : Store} {c b x : Nat} {hd l : List AV} {o : AO} (hb : l ≠ [] → (S.upd c (.cells (hd ++ [accV 4 b l]))) b = none) (hx : S x ≠ none) (hxc : x ≠ c) : (kidS S c b hd l).upd x o = accS ((S.upd c (.cells (hd ++ [accV 4 b l]))).upd x o) b l ∧ (l ≠ [] → ((S.upd c (.cells (hd ++ [accV 4 b l]))).upd x o) b = none) := by
  have hne : l ≠ [] → x ≠ b := fun h e => by
    have := hb h
    rw [← e, Store.upd_ne _ _ hxc] at this
    exact hx this
  refine ⟨by unfold kidS; rw [accS_upd hne], fun h => by rw [Store.upd_ne _ _ (Ne.symm (hne h))]; exact hb h⟩
theorem Store.upd_mid {st : Store} {b c : Nat} {a z a' : AO} (h : b ≠ c) : ((st.upd c a).upd b z).upd c a' = (st.upd b z).upd c a' := by rw [Store.upd_comm _ _ _ (Ne.symm h), Store.upd_upd]
theorem tm_widths (l : List Tm) : ∀ e ∈ l.map Tm.av, e.width = 4 := by intro e h; simp only [List.mem_map] at h; obtain ⟨t, _, rfl⟩ := h; exact Tm.av_width t
theorem tm_junk (l : List Tm) : ∀ e ∈ l.map Tm.av, e.isJunk = false := by intro e h; simp only [List.mem_map] at h; obtain ⟨t, _, rfl⟩ := h; exact Tm.av_junk t
end Go.AW


/- Terms that share nothing: what the program's functions return. -/
namespace Go.AW
open Go.Proofs.Try
set_option linter.unusedSimpArgs false
set_option maxRecDepth 100000

mutual
/-- No list is long. -/
def Tm.small : Tm → Bool
  | .mk _ _ _ ts => decide (ts.length ≤ 1048576) && tmsSmall ts
def tmsSmall : List Tm → Bool
  | [] => true
  | t :: ts => t.small && tmsSmall ts
end
theorem tmsSmall_all : ∀ (ts : List Tm), tmsSmall ts = ts.all Tm.small
  | [] => rfl
  | t :: ts => by simp only [tmsSmall, List.all_cons, tmsSmall_all ts]
theorem Tm.small_mk {k n : Int} {s : ByteArray} {ts : List Tm} (h : (Tm.mk k n s ts).small = true) : ts.length ≤ 1048576 ∧ ∀ x ∈ ts, x.small = true := by
  simpa [Tm.small, tmsSmall_all] using h

theorem o_ownList (l : List Tm) (st : Store) (hb : l.length ≤ 1048576) (hc : ∀ x ∈ l, ∀ (st : Store), ACalls prog 75 [Tm.av x] st (Made st (Tm.av x))) :
    ACalls prog 65 [.slice (l.map Tm.av)] st (Made st (.slice (l.map Tm.av))) := by
  have hws : ∀ e ∈ l.map Tm.av, e.width = 4 := fun e he => by simp only [List.mem_map] at he; obtain ⟨t, _, rfl⟩ := he; exact Tm.av_width t
  refine acalls_fit [] func65 ntmps65 rfl rfl (by kernel_rfl) (by decide +kernel) (by show 1 ≤ _; decide +kernel) ?_
  intro _
  simp -implicitDefEqProofs only [List.length_map, evb0, evb1, evb2, evb3, evb4, evb5, evb6, evb7, evb8, evb9, ↓evZ2, ↓evZ3, ↓Int.cast_ofNat_Int, implies_true, ne_eq, or_false, false_or, or_self, gt_iff_lt, isMut, aFn, List.contains, List.elem, aBox, aField, aLoad, sub, aNil, aPick, aExt, aFld, gd, noJunk, plainOp, aBuildSlice, aBuild, aFill, aParts, seqParts, fitAll, List.range', ↓reduceIte, reduceCtorEq, Nat.reduceEqDiff, Nat.reduceAdd, Nat.reduceLeDiff, Nat.reduceMul, Nat.reduceLT, Nat.reduceBEq, Int.reduceEq, tI_2, zI_2, underlying2, tI_3, zI_3, underlying3, tI_4, zI_4, underlying4, tI_5, zI_5, underlying5, tI_6, zI_6, underlying6, tI_7, zI_7, fI_7_0, fI_7_1, fI_7_2, fI_7_3, bI_7, tI_8, zI_8, fI_8_0, fI_8_1, fI_8_2, fI_8_3, bI_8, tI_12, zI_12, underlying12, tI_13, zI_13, fI_13_0, fI_13_1, bI_13, tI_14, zI_14, fI_14_0, fI_14_1, bI_14, tI_15, zI_15, tI_16, zI_16, tI_17, zI_17, tI_19, zI_19, fI_19_0, bI_19, tI_27, zI_27, eI_27, eB_27, eZ_27, underlying27, tI_41, zI_41, fI_41_0, fI_41_1, fI_41_2, fI_41_3, bI_41, tI_64, zI_64, fI_64_0, fI_64_1, bI_64, tI_75, zI_75, fI_75_0, fI_75_1, fI_75_2, fI_75_3, fI_75_4, fI_75_5, bI_75, tI_92, zI_92, fI_92_0, fI_92_1, fI_92_2, fI_92_3, bI_92, tI_93, zI_93, eI_93, eB_93, eZ_93, underlying93]
  refine arun_each (σ := List AV × List Nat × Nat × Store) [] [2, 6, 7] l (fun i p => GrowTo (l.map Tm.av) st i p.1 p.2.1 p.2.2.1 p.2.2.2) (fun i p => [(3, accV 4 p.2.2.1 p.1), (8, .int .i64 i)]) (fun _ p => p.2.2.2) (by decide +kernel)
    ⟨([], [], 0, st), GrowTo.start, LessL.mk (by simp -implicitDefEqProofs only [accV_nil, evb0, evb1, evb2, evb3, evb4, evb5, evb6, evb7, evb8, evb9, ↓evZ2, ↓evZ3, ↓Int.cast_ofNat_Int, implies_true, ne_eq, or_false, false_or, or_self, gt_iff_lt, isMut, aFn, List.contains, List.elem, aBox, aField, aLoad, sub, aNil, aPick, aExt, aFld, gd, noJunk, plainOp, aBuildSlice, aBuild, aFill, aParts, seqParts, fitAll, List.range', ↓reduceIte, reduceCtorEq, Nat.reduceEqDiff, Nat.reduceAdd, Nat.reduceLeDiff, Nat.reduceMul, Nat.reduceLT, Nat.reduceBEq, Int.reduceEq, tI_2, zI_2, underlying2, tI_3, zI_3, underlying3, tI_4, zI_4, underlying4, tI_5, zI_5, underlying5, tI_6, zI_6, underlying6, tI_7, zI_7, fI_7_0, fI_7_1, fI_7_2, fI_7_3, bI_7, tI_8, zI_8, fI_8_0, fI_8_1, fI_8_2, fI_8_3, bI_8, tI_12, zI_12, underlying12, tI_13, zI_13, fI_13_0, fI_13_1, bI_13, tI_14, zI_14, fI_14_0, fI_14_1, bI_14, tI_15, zI_15, tI_16, zI_16, tI_17, zI_17, tI_19, zI_19, fI_19_0, bI_19, tI_27, zI_27, eI_27, eB_27, eZ_27, underlying27, tI_41, zI_41, fI_41_0, fI_41_1, fI_41_2, fI_41_3, bI_41, tI_64, zI_64, fI_64_0, fI_64_1, bI_64, tI_75, zI_75, fI_75_0, fI_75_1, fI_75_2, fI_75_3, fI_75_4, fI_75_5, bI_75, tI_92, zI_92, fI_92_0, fI_92_1, fI_92_2, fI_92_3, bI_92, tI_93, zI_93, eI_93, eB_93, eZ_93, underlying93])⟩ (fun i x p hx hlt hlt' hdr hinv => ?_) (fun p hge hinv => ?_)
  case refine_2 =>
    obtain ⟨os, bs, b, s⟩ := p
    simp -implicitDefEqProofs only [List.length_map, hge, evb0, evb1, evb2, evb3, evb4, evb5, evb6, evb7, evb8, evb9, ↓evZ2, ↓evZ3, ↓Int.cast_ofNat_Int, implies_true, ne_eq, or_false, false_or, or_self, gt_iff_lt, isMut, aFn, List.contains, List.elem, aBox, aField, aLoad, sub, aNil, aPick, aExt, aFld, gd, noJunk, plainOp, aBuildSlice, aBuild, aFill, aParts, seqParts, fitAll, List.range', ↓reduceIte, reduceCtorEq, Nat.reduceEqDiff, Nat.reduceAdd, Nat.reduceLeDiff, Nat.reduceMul, Nat.reduceLT, Nat.reduceBEq, Int.reduceEq, tI_2, zI_2, underlying2, tI_3, zI_3, underlying3, tI_4, zI_4, underlying4, tI_5, zI_5, underlying5, tI_6, zI_6, underlying6, tI_7, zI_7, fI_7_0, fI_7_1, fI_7_2, fI_7_3, bI_7, tI_8, zI_8, fI_8_0, fI_8_1, fI_8_2, fI_8_3, bI_8, tI_12, zI_12, underlying12, tI_13, zI_13, fI_13_0, fI_13_1, bI_13, tI_14, zI_14, fI_14_0, fI_14_1, bI_14, tI_15, zI_15, tI_16, zI_16, tI_17, zI_17, tI_19, zI_19, fI_19_0, bI_19, tI_27, zI_27, eI_27, eB_27, eZ_27, underlying27, tI_41, zI_41, fI_41_0, fI_41_1, fI_41_2, fI_41_3, bI_41, tI_64, zI_64, fI_64_0, fI_64_1, bI_64, tI_75, zI_75, fI_75_0, fI_75_1, fI_75_2, fI_75_3, fI_75_4, fI_75_5, bI_75, tI_92, zI_92, fI_92_0, fI_92_1, fI_92_2, fI_92_3, bI_92, tI_93, zI_93, eI_93, eB_93, eZ_93, underlying93]
    exact hinv.done (List.length_map _) hws
  obtain ⟨os, bs, b, s⟩ := p
  simp only at hinv
  have hw := wrap64 (n := (i : Int) + 1) (by omega) (by omega)
  have hset : ∀ zs : List AV, zs.length = 4 → setCells zs 0 (Tm.av x).cells = (Tm.av x).cells := fun zs h => set_all (Tm.av_cells x) h
  simp -implicitDefEqProofs only [List.length_map, hlt', ev_at (av := Tm.av) eI_27 hx (Tm.av_width x), Tm.av_agg, Tm.av_width, Tm.av_cells, Tm.av_store, Store.upd_upd, hset, evb0, evb1, evb2, evb3, evb4, evb5, evb6, evb7, evb8, evb9, ↓evZ2, ↓evZ3, ↓Int.cast_ofNat_Int, implies_true, ne_eq, or_false, false_or, or_self, gt_iff_lt, isMut, aFn, List.contains, List.elem, aBox, aField, aLoad, sub, aNil, aPick, aExt, aFld, gd, noJunk, plainOp, aBuildSlice, aBuild, aFill, aParts, seqParts, fitAll, List.range', ↓reduceIte, reduceCtorEq, Nat.reduceEqDiff, Nat.reduceAdd, Nat.reduceLeDiff, Nat.reduceMul, Nat.reduceLT, Nat.reduceBEq, Int.reduceEq, tI_2, zI_2, underlying2, tI_3, zI_3, underlying3, tI_4, zI_4, underlying4, tI_5, zI_5, underlying5, tI_6, zI_6, underlying6, tI_7, zI_7, fI_7_0, fI_7_1, fI_7_2, fI_7_3, bI_7, tI_8, zI_8, fI_8_0, fI_8_1, fI_8_2, fI_8_3, bI_8, tI_12, zI_12, underlying12, tI_13, zI_13, fI_13_0, fI_13_1, bI_13, tI_14, zI_14, fI_14_0, fI_14_1, bI_14, tI_15, zI_15, tI_16, zI_16, tI_17, zI_17, tI_19, zI_19, fI_19_0, bI_19, tI_27, zI_27, eI_27, eB_27, eZ_27, underlying27, tI_41, zI_41, fI_41_0, fI_41_1, fI_41_2, fI_41_3, bI_41, tI_64, zI_64, fI_64_0, fI_64_1, bI_64, tI_75, zI_75, fI_75_0, fI_75_1, fI_75_2, fI_75_3, fI_75_4, fI_75_5, bI_75, tI_92, zI_92, fI_92_0, fI_92_1, fI_92_2, fI_92_3, bI_92, tI_93, zI_93, eI_93, eB_93, eZ_93, underlying93]
  intro b2 hb2
  try simp -implicitDefEqProofs only [su_eq, Tm.av_cells, take_all (Tm.av_cells x), agg_cells (Tm.av_agg x), Nat.le_refl, hset, Store.upd_upd, Tm.av_store, evb0, evb1, evb2, evb3, evb4, evb5, evb6, evb7, evb8, evb9, ↓evZ2, ↓evZ3, ↓Int.cast_ofNat_Int, implies_true, ne_eq, or_false, false_or, or_self, gt_iff_lt, isMut, aFn, List.contains, List.elem, aBox, aField, aLoad, sub, aNil, aPick, aExt, aFld, gd, noJunk, plainOp, aBuildSlice, aBuild, aFill, aParts, seqParts, fitAll, List.range', ↓reduceIte, reduceCtorEq, Nat.reduceEqDiff, Nat.reduceAdd, Nat.reduceLeDiff, Nat.reduceMul, Nat.reduceLT, Nat.reduceBEq, Int.reduceEq, tI_2, zI_2, underlying2, tI_3, zI_3, underlying3, tI_4, zI_4, underlying4, tI_5, zI_5, underlying5, tI_6, zI_6, underlying6, tI_7, zI_7, fI_7_0, fI_7_1, fI_7_2, fI_7_3, bI_7, tI_8, zI_8, fI_8_0, fI_8_1, fI_8_2, fI_8_3, bI_8, tI_12, zI_12, underlying12, tI_13, zI_13, fI_13_0, fI_13_1, bI_13, tI_14, zI_14, fI_14_0, fI_14_1, bI_14, tI_15, zI_15, tI_16, zI_16, tI_17, zI_17, tI_19, zI_19, fI_19_0, bI_19, tI_27, zI_27, eI_27, eB_27, eZ_27, underlying27, tI_41, zI_41, fI_41_0, fI_41_1, fI_41_2, fI_41_3, bI_41, tI_64, zI_64, fI_64_0, fI_64_1, bI_64, tI_75, zI_75, fI_75_0, fI_75_1, fI_75_2, fI_75_3, fI_75_4, fI_75_5, bI_75, tI_92, zI_92, fI_92_0, fI_92_1, fI_92_2, fI_92_3, bI_92, tI_93, zI_93, eI_93, eB_93, eZ_93, underlying93]
  refine (hc x (List.mem_of_getElem? hx) _).mono ?_
  rintro r s2 ⟨bx, m1, m2, m3, m4⟩
  obtain ⟨f1, f2, f3⟩ := m3.cellsFit (Tm.av_width x) (Tm.av_store x)
  have hra : r.isAgg = true := by rw [(Own.shape m3).1, Tm.av_agg]
  have hrj : r.isJunk = false := (Own.shape m3).2.2.1
  simp -implicitDefEqProofs only [f1, hra, hrj, evb0, evb1, evb2, evb3, evb4, evb5, evb6, evb7, evb8, evb9, ↓evZ2, ↓evZ3, ↓Int.cast_ofNat_Int, implies_true, ne_eq, or_false, false_or, or_self, gt_iff_lt, isMut, aFn, List.contains, List.elem, aBox, aField, aLoad, sub, aNil, aPick, aExt, aFld, gd, noJunk, plainOp, aBuildSlice, aBuild, aFill, aParts, seqParts, fitAll, List.range', ↓reduceIte, reduceCtorEq, Nat.reduceEqDiff, Nat.reduceAdd, Nat.reduceLeDiff, Nat.reduceMul, Nat.reduceLT, Nat.reduceBEq, Int.reduceEq, tI_2, zI_2, underlying2, tI_3, zI_3, underlying3, tI_4, zI_4, underlying4, tI_5, zI_5, underlying5, tI_6, zI_6, underlying6, tI_7, zI_7, fI_7_0, fI_7_1, fI_7_2, fI_7_3, bI_7, tI_8, zI_8, fI_8_0, fI_8_1, fI_8_2, fI_8_3, bI_8, tI_12, zI_12, underlying12, tI_13, zI_13, fI_13_0, fI_13_1, bI_13, tI_14, zI_14, fI_14_0, fI_14_1, bI_14, tI_15, zI_15, tI_16, zI_16, tI_17, zI_17, tI_19, zI_19, fI_19_0, bI_19, tI_27, zI_27, eI_27, eB_27, eZ_27, underlying27, tI_41, zI_41, fI_41_0, fI_41_1, fI_41_2, fI_41_3, bI_41, tI_64, zI_64, fI_64_0, fI_64_1, bI_64, tI_75, zI_75, fI_75_0, fI_75_1, fI_75_2, fI_75_3, fI_75_4, fI_75_5, bI_75, tI_92, zI_92, fI_92_0, fI_92_1, fI_92_2, fI_92_3, bI_92, tI_93, zI_93, eI_93, eB_93, eZ_93, underlying93]
  have hlen : os.length = i := hinv.1
  have hosw : ∀ e ∈ os, e.width = 4 := fun e he => by
    obtain ⟨k, hk, rfl⟩ := List.getElem_of_mem he
    exact hinv.2.1.widths (fun q hq => hws q (List.mem_of_mem_take hq)) _ he
  have hkb : os ≠ [] → s2 b = some (.cells (os.flatMap AV.cells)) := fun hne => by
    have h := (hinv.2.2.2.2.1 hne).2.2
    have hbx : b ∉ bx := fun hq => by
      have := m2 b hq
      have hne2 : b ≠ b2 := fun e => by rw [e, hb2] at h; cases h
      rw [Store.upd_ne _ _ hne2, h] at this; cases this
    have hne2 : b ≠ b2 := fun e => by rw [e, hb2] at h; cases h
    rw [m4 b hbx, Store.upd_ne _ _ hne2, h]
  refine acc_appendG eI_27 eB_27 eZ_27 rfl rfl (by intro e he; simp only [List.mem_cons, List.not_mem_nil, or_false] at he; subst he; exact ⟨f1, f3⟩) hosw hkb (by simp only [List.length_cons, List.length_nil, hlen]; omega) (by simp only [List.length_cons, List.length_nil, hlen]; omega) (fun b' s' k1 k2 k3 k4 => ?_)
  have hstep := hinv.step hb2 (show (l.map Tm.av)[i]? = some (Tm.av x) by rw [List.getElem?_map, hx]; rfl) m1 m2 m3 m4 (k1 (by simp)) (k2 (by simp)) (fun q h1 h2 => k3 q (fun _ => h1) h2) k4
  simp -implicitDefEqProofs only [hw, evb0, evb1, evb2, evb3, evb4, evb5, evb6, evb7, evb8, evb9, ↓evZ2, ↓evZ3, ↓Int.cast_ofNat_Int, implies_true, ne_eq, or_false, false_or, or_self, gt_iff_lt, isMut, aFn, List.contains, List.elem, aBox, aField, aLoad, sub, aNil, aPick, aExt, aFld, gd, noJunk, plainOp, aBuildSlice, aBuild, aFill, aParts, seqParts, fitAll, List.range', ↓reduceIte, reduceCtorEq, Nat.reduceEqDiff, Nat.reduceAdd, Nat.reduceLeDiff, Nat.reduceMul, Nat.reduceLT, Nat.reduceBEq, Int.reduceEq, tI_2, zI_2, underlying2, tI_3, zI_3, underlying3, tI_4, zI_4, underlying4, tI_5, zI_5, underlying5, tI_6, zI_6, underlying6, tI_7, zI_7, fI_7_0, fI_7_1, fI_7_2, fI_7_3, bI_7, tI_8, zI_8, fI_8_0, fI_8_1, fI_8_2, fI_8_3, bI_8, tI_12, zI_12, underlying12, tI_13, zI_13, fI_13_0, fI_13_1, bI_13, tI_14, zI_14, fI_14_0, fI_14_1, bI_14, tI_15, zI_15, tI_16, zI_16, tI_17, zI_17, tI_19, zI_19, fI_19_0, bI_19, tI_27, zI_27, eI_27, eB_27, eZ_27, underlying27, tI_41, zI_41, fI_41_0, fI_41_1, fI_41_2, fI_41_3, bI_41, tI_64, zI_64, fI_64_0, fI_64_1, bI_64, tI_75, zI_75, fI_75_0, fI_75_1, fI_75_2, fI_75_3, fI_75_4, fI_75_5, bI_75, tI_92, zI_92, fI_92_0, fI_92_1, fI_92_2, fI_92_3, bI_92, tI_93, zI_93, eI_93, eB_93, eZ_93, underlying93]
  exact ⟨(os ++ [r], bs ++ bx, b', s'.erase b2), hstep, LessL.drop (Drops.erase' _ _) (by simp -implicitDefEqProofs only [evb0, evb1, evb2, evb3, evb4, evb5, evb6, evb7, evb8, evb9, ↓evZ2, ↓evZ3, ↓Int.cast_ofNat_Int, implies_true, ne_eq, or_false, false_or, or_self, gt_iff_lt, isMut, aFn, List.contains, List.elem, aBox, aField, aLoad, sub, aNil, aPick, aExt, aFld, gd, noJunk, plainOp, aBuildSlice, aBuild, aFill, aParts, seqParts, fitAll, List.range', ↓reduceIte, reduceCtorEq, Nat.reduceEqDiff, Nat.reduceAdd, Nat.reduceLeDiff, Nat.reduceMul, Nat.reduceLT, Nat.reduceBEq, Int.reduceEq, tI_2, zI_2, underlying2, tI_3, zI_3, underlying3, tI_4, zI_4, underlying4, tI_5, zI_5, underlying5, tI_6, zI_6, underlying6, tI_7, zI_7, fI_7_0, fI_7_1, fI_7_2, fI_7_3, bI_7, tI_8, zI_8, fI_8_0, fI_8_1, fI_8_2, fI_8_3, bI_8, tI_12, zI_12, underlying12, tI_13, zI_13, fI_13_0, fI_13_1, bI_13, tI_14, zI_14, fI_14_0, fI_14_1, bI_14, tI_15, zI_15, tI_16, zI_16, tI_17, zI_17, tI_19, zI_19, fI_19_0, bI_19, tI_27, zI_27, eI_27, eB_27, eZ_27, underlying27, tI_41, zI_41, fI_41_0, fI_41_1, fI_41_2, fI_41_3, bI_41, tI_64, zI_64, fI_64_0, fI_64_1, bI_64, tI_75, zI_75, fI_75_0, fI_75_1, fI_75_2, fI_75_3, fI_75_4, fI_75_5, bI_75, tI_92, zI_92, fI_92_0, fI_92_1, fI_92_2, fI_92_3, bI_92, tI_93, zI_93, eI_93, eB_93, eZ_93, underlying93])⟩


theorem o_own : ∀ (t : Tm) (st : Store), t.small = true → ACalls prog 75 [t.av] st (Made st t.av)
  | .mk k n s ts, st, hb => by
    obtain ⟨hb1, hb2⟩ := Tm.small_mk hb
    have hc := fun st => o_ownList ts st hb1 fun x hx st => o_own x st (hb2 x hx)
    refine ACalls.madeJ ?_
    refine acalls_fit [1] func75 ntmps75 rfl rfl (by kernel_rfl) (by decide +kernel) (by show 1 ≤ _; decide +kernel) ?_
    intro _
    simp only [Tm.av_mk]
    simp -implicitDefEqProofs only [evb0, evb1, evb2, evb3, evb4, evb5, evb6, evb7, evb8, evb9, ↓evZ2, ↓evZ3, ↓Int.cast_ofNat_Int, implies_true, ne_eq, or_false, false_or, or_self, gt_iff_lt, isMut, aFn, List.contains, List.elem, aBox, aField, aLoad, sub, aNil, aPick, aExt, aFld, gd, noJunk, plainOp, aBuildSlice, aBuild, aFill, aParts, seqParts, fitAll, List.range', ↓reduceIte, reduceCtorEq, Nat.reduceEqDiff, Nat.reduceAdd, Nat.reduceLeDiff, Nat.reduceMul, Nat.reduceLT, Nat.reduceBEq, Int.reduceEq, tI_2, zI_2, underlying2, tI_3, zI_3, underlying3, tI_4, zI_4, underlying4, tI_5, zI_5, underlying5, tI_8, zI_8, fI_8_0, fI_8_1, fI_8_2, fI_8_3, bI_8, tI_27, zI_27, eI_27, eB_27, eZ_27, underlying27, tI_41, zI_41, fI_41_0, fI_41_1, fI_41_2, fI_41_3, bI_41]
    intro b hb1' b2 hb2'
    have hne : b2 ≠ b := by rintro rfl; rw [Store.upd_same] at hb2'; cases hb2'
    have hn2 : st b2 = none := by rw [Store.upd_ne st _ hne] at hb2'; exact hb2'
    simp -implicitDefEqProofs only [su_eq, hne, hne.symm, setCells, Store.upd_upd, evb0, evb1, evb2, evb3, evb4, evb5, evb6, evb7, evb8, evb9, ↓evZ2, ↓evZ3, ↓Int.cast_ofNat_Int, implies_true, ne_eq, or_false, false_or, or_self, gt_iff_lt, isMut, aFn, List.contains, List.elem, aBox, aField, aLoad, sub, aNil, aPick, aExt, aFld, gd, noJunk, plainOp, aBuildSlice, aBuild, aFill, aParts, seqParts, fitAll, List.range', ↓reduceIte, reduceCtorEq, Nat.reduceEqDiff, Nat.reduceAdd, Nat.reduceLeDiff, Nat.reduceMul, Nat.reduceLT, Nat.reduceBEq, Int.reduceEq, tI_2, zI_2, underlying2, tI_3, zI_3, underlying3, tI_4, zI_4, underlying4, tI_5, zI_5, underlying5, tI_8, zI_8, fI_8_0, fI_8_1, fI_8_2, fI_8_3, bI_8, tI_27, zI_27, eI_27, eB_27, eZ_27, underlying27, tI_41, zI_41, fI_41_0, fI_41_1, fI_41_2, fI_41_3, bI_41]
    refine (hc _).mono ?_
    rintro q s2 ⟨bs, m1, m2, m3, m4⟩
    have hbb : b ∉ bs := fun h => by have := m2 b h; simp [su_eq, hne, hne.symm] at this
    have hbb2 : b2 ∉ bs := fun h => by have := m2 b2 h; simp [su_eq] at this
    have e1 := m4 b hbb
    have e2 := m4 b2 hbb2
    simp only [su_eq, hne, hne.symm, if_true, if_false] at e1 e2
    have hqc : q.cells = [q] := by have := (Own.shape m3).1; cases q <;> first | rfl | simp [AV.isAgg] at this
    have hqs : q.storable = true := by
      have := m3
      simp only [Own] at this
      rcases this with ⟨_, rfl, _⟩ | ⟨_, _, _, _, rfl, _⟩ <;> rfl
    simp -implicitDefEqProofs only [su_eq, hne, hne.symm, e1, e2, hqc, hqs, setCells, Store.upd_upd, evb0, evb1, evb2, evb3, evb4, evb5, evb6, evb7, evb8, evb9, ↓evZ2, ↓evZ3, ↓Int.cast_ofNat_Int, implies_true, ne_eq, or_false, false_or, or_self, gt_iff_lt, isMut, aFn, List.contains, List.elem, aBox, aField, aLoad, sub, aNil, aPick, aExt, aFld, gd, noJunk, plainOp, aBuildSlice, aBuild, aFill, aParts, seqParts, fitAll, List.range', ↓reduceIte, reduceCtorEq, Nat.reduceEqDiff, Nat.reduceAdd, Nat.reduceLeDiff, Nat.reduceMul, Nat.reduceLT, Nat.reduceBEq, Int.reduceEq, tI_2, zI_2, underlying2, tI_3, zI_3, underlying3, tI_4, zI_4, underlying4, tI_5, zI_5, underlying5, tI_8, zI_8, fI_8_0, fI_8_1, fI_8_2, fI_8_3, bI_8, tI_27, zI_27, eI_27, eB_27, eZ_27, underlying27, tI_41, zI_41, fI_41_0, fI_41_1, fI_41_2, fI_41_3, bI_41]
    refine ⟨[b, b2], bs, m1, fun x hx => ?_, ?_, ?_, ?_⟩
    · have := m2 x hx
      have h1 : x ≠ b := fun e => hbb (e ▸ hx)
      have h2 : x ≠ b2 := fun e => hbb2 (e ▸ hx)
      simpa [su_eq, h1, h2] using this
    · simp [hb1', hn2, hbb, hbb2]
    · rw [← Tm.av_mk]
      refine own_Tm.2 ⟨q, rfl, Own.keep _ _ _ (fun x hx => ?_) m3⟩
      have h1 : x ≠ b := fun e => hbb (e ▸ hx)
      have h2 : x ≠ b2 := fun e => hbb2 (e ▸ hx)
      simp only [su_eq, h1, h2, if_false]
    · intro x hx hd
      simp only [List.mem_cons, List.not_mem_nil, or_false, not_or] at hd
      simp only [su_eq, hd.1, hd.2, if_false]
      rw [m4 x hx]
      simp only [su_eq, hd.1, hd.2, if_false]
termination_by t => SizeOf.sizeOf t
decreasing_by have := List.sizeOf_lt_of_mem hx; simp only [Tm.mk.sizeOf_spec]; omega
end Go.AW


/- Copies of terms: what the reference's functions return. -/
namespace Go.AW
open Go.Proofs.Try
set_option linter.unusedSimpArgs false
set_option maxRecDepth 100000

theorem c_l1Copy : ∀ (t : Tm) (st : Store), t.small = true → ACalls prog 138 [t.av] st (fun r st' => r = t.av ∧ st' = st)
  | .mk k n s ts, st, hsm => by
    obtain ⟨hlen, hsms⟩ := Tm.small_mk hsm
    have IH := fun (x : Tm) (hx : x ∈ ts) st => c_l1Copy x st (hsms x hx)
    refine ACalls.drop2 (ACalls.fin ?_)
    simp only [Tm.av_mk]
    refine acalls_fit [] func138 ntmps138 rfl rfl (by kernel_rfl) (by decide +kernel) (by show 1 ≤ _; decide +kernel) ?_
    simp only [fitsL, AV.fits, and_true, List.length_map]
    intro ⟨_, _, _, hl, _⟩
    simp -implicitDefEqProofs only [evb0, evb1, evb2, evb3, evb4, evb5, evb6, evb7, evb8, evb9, ↓evZ2, ↓evZ3, ↓Int.cast_ofNat_Int, implies_true, ne_eq, or_false, false_or, or_self, gt_iff_lt, isMut, aFn, List.contains, List.elem, aBox, aField, aLoad, sub, aNil, aPick, aExt, aFld, gd, noJunk, plainOp, aBuildSlice, aBuild, aFill, aParts, seqParts, fitAll, List.range', ↓reduceIte, reduceCtorEq, Nat.reduceEqDiff, Nat.reduceAdd, Nat.reduceLeDiff, Nat.reduceMul, Nat.reduceLT, Nat.reduceBEq, Int.reduceEq, tI_2, zI_2, underlying2, tI_3, zI_3, underlying3, tI_4, zI_4, underlying4, tI_5, zI_5, underlying5, tI_6, zI_6, underlying6, tI_9, zI_9, underlying9, tI_12, zI_12, underlying12, tI_14, zI_14, fI_14_0, fI_14_1, bI_14, tI_15, zI_15, tI_27, zI_27, eI_27, eB_27, eZ_27, underlying27, tI_31, zI_31, fI_31_0, bI_31, tI_41, zI_41, fI_41_0, fI_41_1, fI_41_2, fI_41_3, bI_41, tI_64, zI_64, fI_64_0, fI_64_1, bI_64]
    intro b2 hb2 c hc
    have hne : c ≠ b2 := by rintro rfl; rw [Store.upd_same] at hc; cases hc
    have hn2 : st c = none := by rw [Store.upd_ne st _ hne] at hc; exact hc
    simp -implicitDefEqProofs only [Store.upd_upd, setCells, evb0, evb1, evb2, evb3, evb4, evb5, evb6, evb7, evb8, evb9, ↓evZ2, ↓evZ3, ↓Int.cast_ofNat_Int, implies_true, ne_eq, or_false, false_or, or_self, gt_iff_lt, isMut, aFn, List.contains, List.elem, aBox, aField, aLoad, sub, aNil, aPick, aExt, aFld, gd, noJunk, plainOp, aBuildSlice, aBuild, aFill, aParts, seqParts, fitAll, List.range', ↓reduceIte, reduceCtorEq, Nat.reduceEqDiff, Nat.reduceAdd, Nat.reduceLeDiff, Nat.reduceMul, Nat.reduceLT, Nat.reduceBEq, Int.reduceEq, tI_2, zI_2, underlying2, tI_3, zI_3, underlying3, tI_4, zI_4, underlying4, tI_5, zI_5, underlying5, tI_6, zI_6, underlying6, tI_9, zI_9, underlying9, tI_12, zI_12, underlying12, tI_14, zI_14, fI_14_0, fI_14_1, bI_14, tI_15, zI_15, tI_27, zI_27, eI_27, eB_27, eZ_27, underlying27, tI_31, zI_31, fI_31_0, bI_31, tI_41, zI_41, fI_41_0, fI_41_1, fI_41_2, fI_41_3, bI_41, tI_64, zI_64, fI_64_0, fI_64_1, bI_64]
    refine arun_each (σ := Nat) [] [1, 2, 3] ts (fun i b => (((ts.take i).map (fun y => y)).map Tm.av ≠ [] → (Store.upd (st.upd b2 (.cells [AV.int .i64 0, AV.int .i64 0, AV.str ⟨#[]⟩, AV.fslice []])) c (.cells ([AV.int .i64 k, AV.int .i64 n, AV.str s] ++ [accV 4 b (((ts.take i).map (fun y => y)).map Tm.av)]))) b = none)) (fun i b => [(4, .int .i64 i)]) (fun i b => kidS (st.upd b2 (.cells [AV.int .i64 0, AV.int .i64 0, AV.str ⟨#[]⟩, AV.fslice []])) c b [AV.int .i64 k, AV.int .i64 n, AV.str s] (((ts.take i).map (fun y => y)).map Tm.av)) (by decide +kernel)
      ⟨0, fun h => absurd rfl h, LessL.mk (by simp -implicitDefEqProofs only [List.length_map, evb0, evb1, evb2, evb3, evb4, evb5, evb6, evb7, evb8, evb9, ↓evZ2, ↓evZ3, ↓Int.cast_ofNat_Int, implies_true, ne_eq, or_false, false_or, or_self, gt_iff_lt, isMut, aFn, List.contains, List.elem, aBox, aField, aLoad, sub, aNil, aPick, aExt, aFld, gd, noJunk, plainOp, aBuildSlice, aBuild, aFill, aParts, seqParts, fitAll, List.range', ↓reduceIte, reduceCtorEq, Nat.reduceEqDiff, Nat.reduceAdd, Nat.reduceLeDiff, Nat.reduceMul, Nat.reduceLT, Nat.reduceBEq, Int.reduceEq, tI_2, zI_2, underlying2, tI_3, zI_3, underlying3, tI_4, zI_4, underlying4, tI_5, zI_5, underlying5, tI_6, zI_6, underlying6, tI_9, zI_9, underlying9, tI_12, zI_12, underlying12, tI_14, zI_14, fI_14_0, fI_14_1, bI_14, tI_15, zI_15, tI_27, zI_27, eI_27, eB_27, eZ_27, underlying27, tI_31, zI_31, fI_31_0, bI_31, tI_41, zI_41, fI_41_0, fI_41_1, fI_41_2, fI_41_3, bI_41, tI_64, zI_64, fI_64_0, fI_64_1, bI_64])⟩ (fun i x b hx hlt hlt' hdr hinv => ?_) (fun b hge hinv => ?_)
    case refine_1 =>
      have hw := wrap64 (n := (i : Int) + 1) (by omega) (by omega)
      have hlen' : (((ts.take i).map (fun y => y)).map Tm.av).length = i := by simp only [List.length_map, List.length_take]; omega
      have htk : (ts.take (i + 1)).map (fun y => y) = (ts.take i).map (fun y => y) ++ [(fun y => y) x] := by rw [List.take_add_one, hx]; simp
      have hbo := kidS_c hinv
      simp -implicitDefEqProofs only [List.length_map, hlt', Nat.zero_add, evb0, evb1, evb2, evb3, evb4, evb5, evb6, evb7, evb8, evb9, ↓evZ2, ↓evZ3, ↓Int.cast_ofNat_Int, implies_true, ne_eq, or_false, false_or, or_self, gt_iff_lt, isMut, aFn, List.contains, List.elem, aBox, aField, aLoad, sub, aNil, aPick, aExt, aFld, gd, noJunk, plainOp, aBuildSlice, aBuild, aFill, aParts, seqParts, fitAll, List.range', ↓reduceIte, reduceCtorEq, Nat.reduceEqDiff, Nat.reduceAdd, Nat.reduceLeDiff, Nat.reduceMul, Nat.reduceLT, Nat.reduceBEq, Int.reduceEq, tI_2, zI_2, underlying2, tI_3, zI_3, underlying3, tI_4, zI_4, underlying4, tI_5, zI_5, underlying5, tI_6, zI_6, underlying6, tI_9, zI_9, underlying9, tI_12, zI_12, underlying12, tI_14, zI_14, fI_14_0, fI_14_1, bI_14, tI_15, zI_15, tI_27, zI_27, eI_27, eB_27, eZ_27, underlying27, tI_31, zI_31, fI_31_0, bI_31, tI_41, zI_41, fI_41_0, fI_41_1, fI_41_2, fI_41_3, bI_41, tI_64, zI_64, fI_64_0, fI_64_1, bI_64]
      refine arun_plan [(0, 1), (2, 1), (4, 1), (1, 2), (3, 2), (5, 1), (6, 2), (7, 2), (8, 1), (9, 0), (10, 1), (11, 0)] [0, 2, 4, 1, 3, 5, 6, 7, 8, 10] mixed (by decide +kernel) (by decide +kernel) (by decide +kernel) ?_
      simp -implicitDefEqProofs only [ev_at (av := Tm.av) eI_27 hx (Tm.av_width x), Tm.av_agg, Tm.av_width, hbo, accV_agg, accV_width, Nat.zero_add, evb0, evb1, evb2, evb3, evb4, evb5, evb6, evb7, evb8, evb9, ↓evZ2, ↓evZ3, ↓Int.cast_ofNat_Int, implies_true, ne_eq, or_false, false_or, or_self, gt_iff_lt, isMut, aFn, List.contains, List.elem, aBox, aField, aLoad, sub, aNil, aPick, aExt, aFld, gd, noJunk, plainOp, aBuildSlice, aBuild, aFill, aParts, seqParts, fitAll, List.range', ↓reduceIte, reduceCtorEq, Nat.reduceEqDiff, Nat.reduceAdd, Nat.reduceLeDiff, Nat.reduceMul, Nat.reduceLT, Nat.reduceBEq, Int.reduceEq, tI_2, zI_2, underlying2, tI_3, zI_3, underlying3, tI_4, zI_4, underlying4, tI_5, zI_5, underlying5, tI_6, zI_6, underlying6, tI_9, zI_9, underlying9, tI_12, zI_12, underlying12, tI_14, zI_14, fI_14_0, fI_14_1, bI_14, tI_15, zI_15, tI_27, zI_27, eI_27, eB_27, eZ_27, underlying27, tI_31, zI_31, fI_31_0, bI_31, tI_41, zI_41, fI_41_0, fI_41_1, fI_41_2, fI_41_3, bI_41, tI_64, zI_64, fI_64_0, fI_64_1, bI_64]
      refine callH_mk (IH x (List.mem_of_getElem? hx) _) ?_
      simp -implicitDefEqProofs only [Tm.av_agg, Tm.av_width, Tm.av_junk, hbo, accV_agg, accV_width, Nat.zero_add, evb0, evb1, evb2, evb3, evb4, evb5, evb6, evb7, evb8, evb9, ↓evZ2, ↓evZ3, ↓Int.cast_ofNat_Int, implies_true, ne_eq, or_false, false_or, or_self, gt_iff_lt, isMut, aFn, List.contains, List.elem, aBox, aField, aLoad, sub, aNil, aPick, aExt, aFld, gd, noJunk, plainOp, aBuildSlice, aBuild, aFill, aParts, seqParts, fitAll, List.range', ↓reduceIte, reduceCtorEq, Nat.reduceEqDiff, Nat.reduceAdd, Nat.reduceLeDiff, Nat.reduceMul, Nat.reduceLT, Nat.reduceBEq, Int.reduceEq, tI_2, zI_2, underlying2, tI_3, zI_3, underlying3, tI_4, zI_4, underlying4, tI_5, zI_5, underlying5, tI_6, zI_6, underlying6, tI_9, zI_9, underlying9, tI_12, zI_12, underlying12, tI_14, zI_14, fI_14_0, fI_14_1, bI_14, tI_15, zI_15, tI_27, zI_27, eI_27, eB_27, eZ_27, underlying27, tI_31, zI_31, fI_31_0, bI_31, tI_41, zI_41, fI_41_0, fI_41_1, fI_41_2, fI_41_3, bI_41, tI_64, zI_64, fI_64_0, fI_64_1, bI_64]
      refine acc_append eI_27 eB_27 eZ_27 rfl rfl (by intro e he; simp only [List.mem_cons, List.not_mem_nil, or_false] at he; subst he; exact ⟨Tm.av_width _, Tm.av_store _⟩) (tm_widths _) hinv (by simp only [hlen', List.length_cons, List.length_nil]; omega) (by simp only [hlen', List.length_cons, List.length_nil]; omega) (fun b' hb' => ?_)
      rw [show (((ts.take i).map (fun y => y)).map Tm.av) ++ [((fun y => y) x).av] = ((ts.take (i + 1)).map (fun y => y)).map Tm.av by rw [htk]; simp] at hb' ⊢
      obtain ⟨g1, g2, g3⟩ := kidS_set hb'
      simp only [List.cons_append, List.nil_append] at g1 g3
      simp -implicitDefEqProofs only [g3, accV_cells, accV_store, setCells, Nat.le_refl, g1, hw, evb0, evb1, evb2, evb3, evb4, evb5, evb6, evb7, evb8, evb9, ↓evZ2, ↓evZ3, ↓Int.cast_ofNat_Int, implies_true, ne_eq, or_false, false_or, or_self, gt_iff_lt, isMut, aFn, List.contains, List.elem, aBox, aField, aLoad, sub, aNil, aPick, aExt, aFld, gd, noJunk, plainOp, aBuildSlice, aBuild, aFill, aParts, seqParts, fitAll, List.range', ↓reduceIte, reduceCtorEq, Nat.reduceEqDiff, Nat.reduceAdd, Nat.reduceLeDiff, Nat.reduceMul, Nat.reduceLT, Nat.reduceBEq, Int.reduceEq, tI_2, zI_2, underlying2, tI_3, zI_3, underlying3, tI_4, zI_4, underlying4, tI_5, zI_5, underlying5, tI_6, zI_6, underlying6, tI_9, zI_9, underlying9, tI_12, zI_12, underlying12, tI_14, zI_14, fI_14_0, fI_14_1, bI_14, tI_15, zI_15, tI_27, zI_27, eI_27, eB_27, eZ_27, underlying27, tI_31, zI_31, fI_31_0, bI_31, tI_41, zI_41, fI_41_0, fI_41_1, fI_41_2, fI_41_3, bI_41, tI_64, zI_64, fI_64_0, fI_64_1, bI_64]
      exact ⟨b', g2, LessL.mk (by simp -implicitDefEqProofs only [evb0, evb1, evb2, evb3, evb4, evb5, evb6, evb7, evb8, evb9, ↓evZ2, ↓evZ3, ↓Int.cast_ofNat_Int, implies_true, ne_eq, or_false, false_or, or_self, gt_iff_lt, isMut, aFn, List.contains, List.elem, aBox, aField, aLoad, sub, aNil, aPick, aExt, aFld, gd, noJunk, plainOp, aBuildSlice, aBuild, aFill, aParts, seqParts, fitAll, List.range', ↓reduceIte, reduceCtorEq, Nat.reduceEqDiff, Nat.reduceAdd, Nat.reduceLeDiff, Nat.reduceMul, Nat.reduceLT, Nat.reduceBEq, Int.reduceEq, tI_2, zI_2, underlying2, tI_3, zI_3, underlying3, tI_4, zI_4, underlying4, tI_5, zI_5, underlying5, tI_6, zI_6, underlying6, tI_9, zI_9, underlying9, tI_12, zI_12, underlying12, tI_14, zI_14, fI_14_0, fI_14_1, bI_14, tI_15, zI_15, tI_27, zI_27, eI_27, eB_27, eZ_27, underlying27, tI_31, zI_31, fI_31_0, bI_31, tI_41, zI_41, fI_41_0, fI_41_1, fI_41_2, fI_41_3, bI_41, tI_64, zI_64, fI_64_0, fI_64_1, bI_64])⟩
    have hbo := kidS_c hinv
    rw [List.take_length] at hinv hbo ⊢
    simp -implicitDefEqProofs only [List.length_map, hge, evb0, evb1, evb2, evb3, evb4, evb5, evb6, evb7, evb8, evb9, ↓evZ2, ↓evZ3, ↓Int.cast_ofNat_Int, implies_true, ne_eq, or_false, false_or, or_self, gt_iff_lt, isMut, aFn, List.contains, List.elem, aBox, aField, aLoad, sub, aNil, aPick, aExt, aFld, gd, noJunk, plainOp, aBuildSlice, aBuild, aFill, aParts, seqParts, fitAll, List.range', ↓reduceIte, reduceCtorEq, Nat.reduceEqDiff, Nat.reduceAdd, Nat.reduceLeDiff, Nat.reduceMul, Nat.reduceLT, Nat.reduceBEq, Int.reduceEq, tI_2, zI_2, underlying2, tI_3, zI_3, underlying3, tI_4, zI_4, underlying4, tI_5, zI_5, underlying5, tI_6, zI_6, underlying6, tI_9, zI_9, underlying9, tI_12, zI_12, underlying12, tI_14, zI_14, fI_14_0, fI_14_1, bI_14, tI_15, zI_15, tI_27, zI_27, eI_27, eB_27, eZ_27, underlying27, tI_31, zI_31, fI_31_0, bI_31, tI_41, zI_41, fI_41_0, fI_41_1, fI_41_2, fI_41_3, bI_41, tI_64, zI_64, fI_64_0, fI_64_1, bI_64]
    simp -implicitDefEqProofs only [hbo, evb0, evb1, evb2, evb3, evb4, evb5, evb6, evb7, evb8, evb9, ↓evZ2, ↓evZ3, ↓Int.cast_ofNat_Int, implies_true, ne_eq, or_false, false_or, or_self, gt_iff_lt, isMut, aFn, List.contains, List.elem, aBox, aField, aLoad, sub, aNil, aPick, aExt, aFld, gd, noJunk, plainOp, aBuildSlice, aBuild, aFill, aParts, seqParts, fitAll, List.range', ↓reduceIte, reduceCtorEq, Nat.reduceEqDiff, Nat.reduceAdd, Nat.reduceLeDiff, Nat.reduceMul, Nat.reduceLT, Nat.reduceBEq, Int.reduceEq, tI_2, zI_2, underlying2, tI_3, zI_3, underlying3, tI_4, zI_4, underlying4, tI_5, zI_5, underlying5, tI_6, zI_6, underlying6, tI_9, zI_9, underlying9, tI_12, zI_12, underlying12, tI_14, zI_14, fI_14_0, fI_14_1, bI_14, tI_15, zI_15, tI_27, zI_27, eI_27, eB_27, eZ_27, underlying27, tI_31, zI_31, fI_31_0, bI_31, tI_41, zI_41, fI_41_0, fI_41_1, fI_41_2, fI_41_3, bI_41, tI_64, zI_64, fI_64_0, fI_64_1, bI_64]
    have hb2c : b2 ≠ c := Ne.symm hne
    have hS : (st.upd b2 (.cells [AV.int .i64 0, AV.int .i64 0, AV.str ⟨#[]⟩, AV.fslice []])) b2 ≠ none := by rw [Store.upd_same]; simp
    have h1 := kidS_ne hinv hS hb2c
    rw [Store.upd_same] at h1
    simp -implicitDefEqProofs only [h1, accV_store, accV_cells, setCells, Nat.le_refl, evb0, evb1, evb2, evb3, evb4, evb5, evb6, evb7, evb8, evb9, ↓evZ2, ↓evZ3, ↓Int.cast_ofNat_Int, implies_true, ne_eq, or_false, false_or, or_self, gt_iff_lt, isMut, aFn, List.contains, List.elem, aBox, aField, aLoad, sub, aNil, aPick, aExt, aFld, gd, noJunk, plainOp, aBuildSlice, aBuild, aFill, aParts, seqParts, fitAll, List.range', ↓reduceIte, reduceCtorEq, Nat.reduceEqDiff, Nat.reduceAdd, Nat.reduceLeDiff, Nat.reduceMul, Nat.reduceLT, Nat.reduceBEq, Int.reduceEq, tI_2, zI_2, underlying2, tI_3, zI_3, underlying3, tI_4, zI_4, underlying4, tI_5, zI_5, underlying5, tI_6, zI_6, underlying6, tI_9, zI_9, underlying9, tI_12, zI_12, underlying12, tI_14, zI_14, fI_14_0, fI_14_1, bI_14, tI_15, zI_15, tI_27, zI_27, eI_27, eB_27, eZ_27, underlying27, tI_31, zI_31, fI_31_0, bI_31, tI_41, zI_41, fI_41_0, fI_41_1, fI_41_2, fI_41_3, bI_41, tI_64, zI_64, fI_64_0, fI_64_1, bI_64]
    obtain ⟨h2, h3⟩ := kidS_upd (o := .cells [AV.int .i64 k, AV.int .i64 n, AV.str s, accV 4 b ((ts.map fun y => y).map Tm.av)]) hinv hS hb2c
    refine ⟨b, _, _, h2, h3, tm_junk _, ⟨4, tm_widths _⟩, ?_, ?_⟩
    · simp only [fin_agg, List.map_cons, List.map_nil, fin_int, fin_str, accV_fin, List.map_id']
    · exact (((Drops.refl _).upd hb2).upd hn2).upd hb2
termination_by t => SizeOf.sizeOf t
decreasing_by have := List.sizeOf_lt_of_mem hx; simp only [Tm.mk.sizeOf_spec]; omega
end Go.AW

/- Substitutions, variables that are walked, unification: plain data. -/
namespace Go.AW
set_option linter.unusedSimpArgs false
set_option linter.unusedVariables false

def Tm.k : Tm → Int | .mk k _ _ _ => k
def Tm.n : Tm → Int | .mk _ n _ _ => n
def Tm.s : Tm → ByteArray | .mk _ _ s _ => s
def Tm.ts : Tm → List Tm | .mk _ _ _ ts => ts
theorem Tm.eta (t : Tm) : t = .mk t.k t.n t.s t.ts := by cases t; rfl

/-- A variable. -/
def vr (n : Int) : Tm := .mk 1 n ⟨#[]⟩ []

mutual
/-- Every variable replaced. -/
def Tm.mapv (f : Int → Tm) : Tm → Tm
  | .mk k n s ts => if k = 1 then f n else .mk k n s (tmsMapv f ts)
def tmsMapv (f : Int → Tm) : List Tm → List Tm
  | [] => []
  | t :: ts => t.mapv f :: tmsMapv f ts
end
theorem tmsMapv_map (f : Int → Tm) : ∀ ts : List Tm, tmsMapv f ts = ts.map (Tm.mapv f)
  | [] => rfl
  | t :: ts => by simp only [tmsMapv, List.map_cons, tmsMapv_map f ts]
theorem Tm.mapv_var (f : Int → Tm) {k n : Int} {s : ByteArray} {ts : List Tm} (h : k = 1) : (Tm.mk k n s ts).mapv f = f n := by simp only [Tm.mapv, h, if_true]
theorem Tm.mapv_mk (f : Int → Tm) {k n : Int} {s : ByteArray} {ts : List Tm} (h : k ≠ 1) : (Tm.mk k n s ts).mapv f = .mk k n s (ts.map (Tm.mapv f)) := by simp only [Tm.mapv, h, if_false, tmsMapv_map]
theorem mapv_vr (f : Int → Tm) (n : Int) : (vr n).mapv f = f n := Tm.mapv_var f rfl

mutual
/-- The variables. -/
def Tm.vl : Tm → List Int
  | .mk k n _ ts => if k = 1 then [n] else tmsVl ts
def tmsVl : List Tm → List Int
  | [] => []
  | t :: ts => t.vl ++ tmsVl ts
end
theorem tmsVl_mem {v : Int} : ∀ {ts : List Tm}, v ∈ tmsVl ts ↔ ∃ t ∈ ts, v ∈ t.vl
  | [] => by simp [tmsVl]
  | t :: ts => by simp [tmsVl, tmsVl_mem (ts := ts)]
theorem Tm.vl_var {k n : Int} {s : ByteArray} {ts : List Tm} (h : k = 1) : (Tm.mk k n s ts).vl = [n] := by simp only [Tm.vl, h, if_true]
theorem Tm.vl_mk {k n v : Int} {s : ByteArray} {ts : List Tm} (h : k ≠ 1) : v ∈ (Tm.mk k n s ts).vl ↔ ∃ t ∈ ts, v ∈ t.vl := by simp only [Tm.vl, h, if_false, tmsVl_mem]
theorem vl_vr (n : Int) : (vr n).vl = [n] := Tm.vl_var rfl

theorem Tm.ind {p : Tm → Prop} (h : ∀ k n s ts, (∀ t ∈ ts, p t) → p (.mk k n s ts)) : ∀ t, p t
  | .mk k n s ts => h k n s ts fun t ht => Tm.ind h t
termination_by t => SizeOf.sizeOf t
decreasing_by have := List.sizeOf_lt_of_mem ht; simp only [Tm.mk.sizeOf_spec]; omega

theorem mapv_congr {f g : Int → Tm} : ∀ (t : Tm), (∀ v ∈ t.vl, f v = g v) → t.mapv f = t.mapv g := by
  intro t
  induction t using Tm.ind with
  | h k n s ts ih =>
    intro h
    by_cases hk : k = 1
    · rw [Tm.mapv_var f hk, Tm.mapv_var g hk]; exact h n (by rw [Tm.vl_var hk]; simp)
    · rw [Tm.mapv_mk f hk, Tm.mapv_mk g hk]
      congr 1
      exact List.map_congr_left fun x hx => ih x hx fun v hv => h v ((Tm.vl_mk hk).2 ⟨x, hx, hv⟩)
theorem mapv_mapv (f g : Int → Tm) (t : Tm) : (t.mapv f).mapv g = t.mapv fun v => (f v).mapv g := by
  induction t using Tm.ind with
  | h k n s ts ih =>
    by_cases hk : k = 1
    · rw [Tm.mapv_var f hk, Tm.mapv_var _ hk]
    · rw [Tm.mapv_mk f hk, Tm.mapv_mk g hk, Tm.mapv_mk _ hk, List.map_map]
      congr 1
      exact List.map_congr_left fun x hx => ih x hx
theorem vl_mapv {f : Int → Tm} {w : Int} (t : Tm) : w ∈ (t.mapv f).vl ↔ ∃ v ∈ t.vl, w ∈ (f v).vl := by
  induction t using Tm.ind with
  | h k n s ts ih =>
    by_cases hk : k = 1
    · rw [Tm.mapv_var f hk, Tm.vl_var hk]; simp
    · rw [Tm.mapv_mk f hk, Tm.vl_mk hk]
      constructor
      · rintro ⟨x, hx, hw⟩
        obtain ⟨y, hy, rfl⟩ := List.mem_map.1 hx
        obtain ⟨v, hv, hvw⟩ := (ih y hy).1 hw
        exact ⟨v, (Tm.vl_mk hk).2 ⟨y, hy, hv⟩, hvw⟩
      · rintro ⟨v, hv, hw⟩
        obtain ⟨y, hy, hvy⟩ := (Tm.vl_mk hk).1 hv
        exact ⟨_, List.mem_map.2 ⟨y, hy, rfl⟩, (ih y hy).2 ⟨v, hvy, hw⟩⟩
theorem Tm.nodes_pos (t : Tm) : 0 < t.nodes := by cases t; rw [Tm.nodes_mk]; omega
theorem nodes_mapv {f : Int → Tm} {v : Int} : ∀ (t : Tm), v ∈ t.vl → (f v).nodes ≤ (t.mapv f).nodes ∧ (t.k ≠ 1 → (f v).nodes < (t.mapv f).nodes) := by
  intro t
  induction t using Tm.ind with
  | h k n s ts ih =>
    intro hv
    by_cases hk : k = 1
    · rw [Tm.vl_var hk] at hv
      simp only [List.mem_cons, List.not_mem_nil, or_false] at hv
      subst hv
      rw [Tm.mapv_var f hk]
      exact ⟨Nat.le_refl _, fun h => absurd hk h⟩
    · obtain ⟨x, hx, hvx⟩ := (Tm.vl_mk hk).1 hv
      have h1 := (ih x hx hvx).1
      have h2 := sumL_mem (f := Tm.nodes) (List.mem_map.2 ⟨x, hx, rfl⟩ : x.mapv f ∈ ts.map (Tm.mapv f))
      rw [Tm.mapv_mk f hk, Tm.nodes_mk]
      omega

/-! ### Bindings -/
abbrev Sub := Int → Option Tm
def Sub.set (σ : Sub) (n : Int) (t : Tm) : Sub := fun m => if m = n then some t else σ m
def Sub.none : Sub := fun _ => Option.none
/-- What each variable stands for in the end; a rank that falls along the bindings. -/
structure Good (σ : Sub) (R : Int → Tm) (rk : Int → Nat) (B : Nat) : Prop where
  sol : ∀ n, R n = match σ n with | some u => u.mapv R | .none => vr n
  rank : ∀ n u, σ n = some u → ∀ w ∈ u.vl, rk w < rk n
  bd : ∀ n, rk n < B
/-- θ solves the bindings. -/
def Sol (θ : Int → Tm) (σ : Sub) : Prop := ∀ n u, σ n = some u → θ n = u.mapv θ

section
variable {σ : Sub} {R R' : Int → Tm} {rk rk' : Int → Nat} {B B' : Nat}
theorem Good.none : Good Sub.none vr (fun _ => 0) 1 := ⟨fun n => rfl, fun n u h => (by cases h), fun n => Nat.zero_lt_one⟩
theorem Good.free (G : Good σ R rk B) {n : Int} (h : σ n = .none) : R n = vr n := by rw [G.sol n, h]
theorem Good.bound (G : Good σ R rk B) {n : Int} {u : Tm} (h : σ n = some u) : R n = u.mapv R := by rw [G.sol n, h]
theorem Good.isSol (G : Good σ R rk B) : Sol R σ := fun n u h => G.bound h
theorem Good.ind (G : Good σ R rk B) {p : Int → Prop} (h0 : ∀ n, σ n = .none → p n) (h1 : ∀ n u, σ n = some u → (∀ w ∈ u.vl, p w) → p n) : ∀ n, p n := by
  intro n
  generalize hk : rk n = k
  induction k using Nat.strongRecOn generalizing n with
  | _ k ih =>
    cases h : σ n with
    | none => exact h0 n h
    | some u => exact h1 n u h fun w hw => ih (rk w) (hk ▸ G.rank n u h w hw) w rfl
theorem Good.uniq (G : Good σ R rk B) (G' : Good σ R' rk' B') : R = R' := by
  funext n
  refine G.ind (p := fun n => R n = R' n) (fun n h => ?_) (fun n u h ih => ?_) n
  · rw [G.free h, G'.free h]
  · rw [G.bound h, G'.bound h]; exact mapv_congr u ih
theorem Good.factor (G : Good σ R rk B) {θ : Int → Tm} (S : Sol θ σ) (n : Int) : (R n).mapv θ = θ n := by
  refine G.ind (p := fun n => (R n).mapv θ = θ n) (fun n h => ?_) (fun n u h ih => ?_) n
  · rw [G.free h, mapv_vr]
  · rw [G.bound h, mapv_mapv, S n u h]; exact mapv_congr u ih
theorem Good.factorT (G : Good σ R rk B) {θ : Int → Tm} (S : Sol θ σ) (t : Tm) : (t.mapv R).mapv θ = t.mapv θ := by
  rw [mapv_mapv]; exact mapv_congr t fun v _ => G.factor S v
theorem Good.canon (G : Good σ R rk B) (n : Int) : (R n).mapv vr = R n := by
  refine G.ind (p := fun n => (R n).mapv vr = R n) (fun n h => ?_) (fun n u h ih => ?_) n
  · rw [G.free h, mapv_vr]
  · rw [G.bound h, mapv_mapv]; exact mapv_congr u ih
theorem Good.canonT (G : Good σ R rk B) (t : Tm) : (t.mapv R).mapv vr = t.mapv R := by
  rw [mapv_mapv]; exact mapv_congr t fun v _ => G.canon v
/-- What is left is not bound. -/
theorem Good.unbound (G : Good σ R rk B) {n : Int} : ∀ w ∈ (R n).vl, σ w = .none := by
  refine G.ind (p := fun n => ∀ w ∈ (R n).vl, σ w = .none) (fun n h => ?_) (fun n u h ih => ?_) n
  · rw [G.free h, vl_vr]; intro w hw; simp only [List.mem_cons, List.not_mem_nil, or_false] at hw; rw [hw, h]
  · rw [G.bound h]
    intro w hw
    obtain ⟨v, hv, hvw⟩ := (vl_mapv u).1 hw
    exact ih v hv w hvw

/-- One binding more. -/
theorem Good.bind (G : Good σ R rk B) {n : Int} {t : Tm} (hn : σ n = .none) (ho : n ∉ (t.mapv R).vl) :
    ∃ rk' B', Good (σ.set n t) (fun m => (R m).mapv fun v => if v = n then t.mapv R else vr v) rk' B' := by
  have key : (t.mapv R).mapv (fun v => if v = n then t.mapv R else vr v) = t.mapv R := by
    rw [mapv_congr (g := vr) (t.mapv R) (fun v hv => if_neg fun e => ho (by rw [← e]; exact hv)), G.canonT]
  refine ⟨fun v => if n ∈ (R v).vl then rk v + B else rk v, B + B, fun m => ?_, fun m u h w hw => ?_, fun m => ?_⟩
  · by_cases hm : m = n
    · subst hm
      simp only [Sub.set, if_true]
      rw [G.free hn, mapv_vr, if_pos rfl]
      rw [← mapv_mapv, key]
    · simp only [Sub.set, hm, if_false]
      cases h : σ m with
      | none => rw [G.free h, mapv_vr, if_neg hm]
      | some u => rw [G.bound h, mapv_mapv]
  · by_cases hm : m = n
    · subst hm
      simp only [Sub.set, if_true, Option.some.injEq] at h
      subst h
      have hw' : m ∉ (R w).vl := fun h => ho ((vl_mapv t).2 ⟨w, hw, h⟩)
      have : m ∈ (R m).vl := by rw [G.free hn, vl_vr]; simp
      have := G.bd w
      simp only [hw', if_false]
      rw [if_pos (by assumption)]
      omega
    · simp only [Sub.set, hm, if_false] at h
      have h1 := G.rank m u h w hw
      by_cases hw' : n ∈ (R w).vl
      · have : n ∈ (R m).vl := by rw [G.bound h]; exact (vl_mapv u).2 ⟨w, hw, hw'⟩
        simp only [hw', this, if_true]; omega
      · simp only [hw', if_false]; split <;> omega
  · have := G.bd m
    split <;> omega
end

open Classical in
/-- What each variable stands for in the end. -/
noncomputable def rs (σ : Sub) : Int → Tm := if h : ∃ R rk B, Good σ R rk B then h.choose else vr
theorem Good.rs {σ : Sub} {R : Int → Tm} {rk : Int → Nat} {B : Nat} (G : Good σ R rk B) : rs σ = R := by
  unfold AW.rs
  have h : ∃ R rk B, Good σ R rk B := ⟨R, rk, B, G⟩
  rw [dif_pos h]
  obtain ⟨rk', B', G'⟩ := h.choose_spec
  exact G'.uniq G

/-! ### Walking -/
inductive WkN (σ : Sub) : Nat → Tm → Tm → Prop
  | stop {t : Tm} (h : t.k = 1 → σ t.n = none) : WkN σ 0 t t
  | go {f : Nat} {t u v : Tm} (h1 : t.k = 1) (h2 : σ t.n = some u) (h3 : WkN σ f u v) : WkN σ (f + 1) t v
theorem WkN.det {σ : Sub} {f g : Nat} {t u v : Tm} (h : WkN σ f t u) : WkN σ g t v → u = v := by
  induction h generalizing g v with
  | stop h =>
    intro h'
    cases h' with
    | stop => rfl
    | go h1 h2 h3 => rw [h h1] at h2; cases h2
  | go h1 h2 h3 ih =>
    intro h'
    cases h' with
    | stop h => rw [h h1] at h2; cases h2
    | go h1' h2' h3' => rw [h2] at h2'; cases h2'; exact ih h3'
theorem WkN.total {σ : Sub} {R : Int → Tm} {rk : Int → Nat} {B : Nat} (G : Good σ R rk B) (t : Tm) : ∃ f u, WkN σ f t u := by
  have key : ∀ n, ∀ t : Tm, t.k = 1 → t.n = n → ∃ f u, WkN σ f t u := by
    intro n
    refine G.ind (p := fun n => ∀ t : Tm, t.k = 1 → t.n = n → ∃ f u, WkN σ f t u) (fun n h t hk hn => ?_) (fun n u h ih t hk hn => ?_) n
    · exact ⟨0, t, .stop fun _ => by rw [hn, h]⟩
    · by_cases hu : u.k = 1
      · have : u.n ∈ u.vl := by rw [Tm.eta u, Tm.vl_var hu]; simp [Tm.n]
        obtain ⟨f, v, hv⟩ := ih u.n this u hu rfl
        exact ⟨f + 1, v, .go hk (by rw [hn, h]) hv⟩
      · exact ⟨1, u, .go hk (by rw [hn, h]) (.stop fun h => absurd h hu)⟩
  by_cases hk : t.k = 1
  · exact key t.n t hk rfl
  · exact ⟨0, t, .stop fun h => absurd h hk⟩
theorem Tm.vl_k1 {t : Tm} (h : t.k = 1) : t.vl = [t.n] := by cases t; exact Tm.vl_var h
theorem Tm.mapv_k1 {t : Tm} (f : Int → Tm) (h : t.k = 1) : t.mapv f = f t.n := by cases t; exact Tm.mapv_var f h
theorem Tm.mapv_k {t : Tm} (f : Int → Tm) (h : t.k ≠ 1) : t.mapv f = .mk t.k t.n t.s (t.ts.map (Tm.mapv f)) := by cases t; exact Tm.mapv_mk f h
theorem WkN.end {σ : Sub} {f : Nat} {t u : Tm} (h : WkN σ f t u) : u.k = 1 → σ u.n = none := by induction h with | stop h => exact h | go _ _ _ ih => exact ih
theorem WkN.mapv {σ : Sub} {θ : Int → Tm} (S : Sol θ σ) {f : Nat} {t u : Tm} (h : WkN σ f t u) : u.mapv θ = t.mapv θ := by
  induction h with
  | stop => rfl
  | go h1 h2 _ ih => rw [ih, Tm.mapv_k1 θ h1, S _ _ h2]
theorem WkN.rank {σ : Sub} {R : Int → Tm} {rk : Int → Nat} {B : Nat} (G : Good σ R rk B) {f : Nat} {t u : Tm} (h : WkN σ f t u) : ∀ w ∈ u.vl, ∃ v ∈ t.vl, rk w ≤ rk v ∧ (f ≠ 0 → rk w < rk v) := by
  induction h with
  | stop h => exact fun w hw => ⟨w, hw, Nat.le_refl _, fun h => absurd rfl h⟩
  | @go f t u v h1 h2 _ ih =>
    intro w hw
    obtain ⟨x, hx, hle, _⟩ := ih w hw
    have := G.rank _ _ h2 x hx
    exact ⟨t.n, by rw [Tm.vl_k1 h1]; simp, by omega, fun _ => by omega⟩
/-- What holds of a term and of all that is bound. -/
theorem WkN.all {σ : Sub} {p : Tm → Prop} (hp : ∀ n u, σ n = some u → p u) {f : Nat} {t u : Tm} (h : WkN σ f t u) (ht : p t) : p u := by
  induction h with
  | stop => exact ht
  | go _ h2 _ ih => exact ih (hp _ _ h2)
open Classical in
noncomputable def wk (σ : Sub) (t : Tm) : Tm := if h : ∃ u f, WkN σ f t u then h.choose else t
theorem WkN.wk {σ : Sub} {f : Nat} {t u : Tm} (h : WkN σ f t u) : wk σ t = u := by
  unfold AW.wk
  have h' : ∃ u f, WkN σ f t u := ⟨u, f, h⟩
  rw [dif_pos h']
  obtain ⟨g, hg⟩ := h'.choose_spec
  exact hg.det h
theorem Good.wk {σ : Sub} {R : Int → Tm} {rk : Int → Nat} {B : Nat} (G : Good σ R rk B) (t : Tm) : ∃ f, WkN σ f t (wk σ t) := by
  obtain ⟨f, u, h⟩ := WkN.total G t
  exact ⟨f, by rw [h.wk]; exact h⟩

/-! ### Unification -/
open Classical in
noncomputable def bnd (σ : Sub) (n : Int) (t : Tm) : Bool × Sub × List Int := if n ∈ (t.mapv (rs σ)).vl then (false, σ, []) else (true, σ.set n t, [n])
open Classical in
/-- The same apart from the arguments. -/
def headEq (a b : Tm) : Bool := decide (a.k = b.k) && decide (a.n = b.n) && decide (a.s = b.s) && decide (a.ts.length = b.ts.length)
mutual
noncomputable def uniF : Nat → Sub → Tm → Tm → Option (Bool × Sub × List Int)
  | 0, _, _, _ => none
  | g + 1, σ, a, b =>
    if (wk σ a).k = 1 ∧ (wk σ b).k = 1 ∧ (wk σ a).n = (wk σ b).n then some (true, σ, [])
    else if (wk σ a).k = 1 then some (bnd σ (wk σ a).n (wk σ b))
    else if (wk σ b).k = 1 then some (bnd σ (wk σ b).n (wk σ a))
    else if headEq (wk σ a) (wk σ b) = true then unisF g σ (wk σ a).ts (wk σ b).ts
    else some (false, σ, [])
termination_by g => (g, 0)
noncomputable def unisF : Nat → Sub → List Tm → List Tm → Option (Bool × Sub × List Int)
  | g, σ, a :: xs, b :: ys => match uniF g σ a b with
    | none => none
    | some (false, σ', tr) => some (false, σ', tr)
    | some (true, σ', tr) => match unisF g σ' xs ys with
      | none => none
      | some (r, σ'', tr') => some (r, σ'', tr ++ tr')
  | _, σ, _, _ => some (true, σ, [])
termination_by g _ xs => (g, xs.length + 1)
end
end Go.AW

/- Bindings as data; replaced variables. -/
namespace Go.AW
set_option linter.unusedSimpArgs false
set_option linter.unusedVariables false

theorem Tm.soft (t : Tm) : t.av.soft = t.av := by cases t; simp [Tm.av_mk, AV.soft, softL]
theorem Tm.fin0 (t : Tm) (b : Nat) : t.av.fin b [] = t.av := Tm.soft t
theorem tm_even (l : List Tm) : Even (l.map Tm.av) := ⟨4, tm_widths l⟩

/-- A binding. -/
abbrev Bd := Int × Tm
def bdAv (b : Bd) : AV := .agg (.int .i64 b.1 :: b.2.av.cells)
theorem bdAv_agg (b : Bd) : (bdAv b).isAgg = true := rfl
theorem bdAv_width (b : Bd) : (bdAv b).width = 5 := by simp only [bdAv, AV.width, List.length_cons, Tm.av_cells]
theorem bdAv_cells (b : Bd) : (bdAv b).cells.length = 5 := by rw [cells_width, bdAv_width]
theorem bdAv_store (b : Bd) : (bdAv b).cells.all AV.storable = true := by
  show (AV.int .i64 b.1 :: b.2.av.cells).all AV.storable = true
  rw [List.all_cons, Tm.av_store b.2]
  rfl
theorem bdAv_junk (b : Bd) : (bdAv b).isJunk = false := rfl
theorem bd_widths (l : List Bd) : ∀ e ∈ l.map bdAv, e.width = 5 := by intro e h; simp only [List.mem_map] at h; obtain ⟨t, _, rfl⟩ := h; exact bdAv_width t
theorem bd_junks (l : List Bd) : ∀ e ∈ l.map bdAv, e.isJunk = false := by intro e h; simp only [List.mem_map] at h; obtain ⟨t, _, rfl⟩ := h; rfl
theorem bdAv_mk (n : Int) (t : Tm) : AV.agg (.int .i64 n :: t.av.cells) = bdAv (n, t) := rfl

def findB : List Bd → Int → Option Tm
  | [], _ => none
  | (m, x) :: r, n => if m = n then some x else findB r n
/-- The variable replaced by what it stands for. -/
def subB (bs : List Bd) (n : Int) : Tm := (findB bs n).getD (vr n)
def Tm.zero : Tm := .mk 0 0 ⟨#[]⟩ []
theorem zero_av : AV.agg [.int .i64 0, .int .i64 0, .str ⟨#[]⟩, .slice []] = Tm.zero.av := by simp only [Tm.zero, Tm.av_mk, List.map_nil]

mutual
/-- Variables have neither name nor arguments. -/
def Tm.cv : Tm → Bool
  | .mk k _ s ts => (!decide (k = 1) || (decide (s = ⟨#[]⟩) && ts.isEmpty)) && tmsCv ts
def tmsCv : List Tm → Bool
  | [] => true
  | t :: ts => t.cv && tmsCv ts
end
theorem tmsCv_all : ∀ (ts : List Tm), tmsCv ts = ts.all Tm.cv
  | [] => rfl
  | t :: ts => by simp only [tmsCv, List.all_cons, tmsCv_all ts]
theorem Tm.cv_mk {k n : Int} {s : ByteArray} {ts : List Tm} : (Tm.mk k n s ts).cv = true ↔ (k = 1 → s = ⟨#[]⟩ ∧ ts = []) ∧ ∀ x ∈ ts, x.cv = true := by
  simp only [Tm.cv, tmsCv_all, Bool.and_eq_true, Bool.or_eq_true, Bool.not_eq_true', decide_eq_false_iff_not, List.isEmpty_iff, List.all_eq_true, decide_eq_true_eq]
  constructor
  · exact fun h => ⟨fun hk => h.1.resolve_left (fun hn => hn hk), h.2⟩
  · intro h
    refine ⟨?_, h.2⟩
    by_cases hk : k = 1
    · exact .inr (h.1 hk)
    · exact .inl hk
theorem Tm.shape_cv : ∀ (t : Tm) (d : Int), t.shape d = true → t.cv = true := by
  intro t
  induction t using Tm.ind with
  | h k n s ts ih =>
    intro d h
    rw [Tm.shape_mk] at h
    simp only [Bool.and_eq_true, List.all_eq_true] at h
    obtain ⟨⟨_, h1⟩, h2⟩ := h
    refine Tm.cv_mk.2 ⟨fun hk => ?_, fun x hx => ih x hx _ (h2 x hx)⟩
    subst hk
    simp [ownOk] at h1
    exact ⟨h1.1.2, h1.2⟩
theorem Tm.valid_cv {t : Tm} (h : t.valid = true) : t.cv = true := by simp only [Tm.valid, Bool.and_eq_true] at h; exact Tm.shape_cv t 30 h.1
theorem Tm.cv_wf : ∀ (t : Tm), t.cv = true → t.wf = true := by
  intro t
  induction t using Tm.ind with
  | h k n s ts ih =>
    intro h
    obtain ⟨h1, h2⟩ := Tm.cv_mk.1 h
    simp only [Tm.wf, tmsWf_all, Bool.and_eq_true, Bool.or_eq_true, Bool.not_eq_true', decide_eq_false_iff_not, List.isEmpty_iff, List.all_eq_true]
    refine ⟨?_, fun x hx => ih x hx (h2 x hx)⟩
    by_cases hk : k = 1
    · exact .inr (h1 hk).2
    · exact .inl hk
theorem Tm.cv_vr {t : Tm} (h : t.cv = true) (hk : t.k = 1) : t = vr t.n := by
  obtain ⟨k, n, s, ts⟩ := t
  obtain ⟨h1, _⟩ := Tm.cv_mk.1 h
  simp only [Tm.k] at hk
  subst hk
  obtain ⟨rfl, rfl⟩ := h1 rfl
  rfl
theorem Tm.shape_small : ∀ (t : Tm) (d : Int), t.shape d = true → t.small = true := by
  intro t
  induction t using Tm.ind with
  | h k n s ts ih =>
    intro d h
    rw [Tm.shape_mk] at h
    simp only [Bool.and_eq_true, List.all_eq_true] at h
    obtain ⟨⟨_, h1⟩, h2⟩ := h
    simp only [Tm.small, tmsSmall_all, Bool.and_eq_true, decide_eq_true_eq, List.all_eq_true]
    refine ⟨?_, fun x hx => ih x hx _ (h2 x hx)⟩
    unfold ownOk at h1
    cases h3 : decide (k = 1) <;> rw [h3] at h1
    · cases h4 : decide (k = 2) <;> rw [h4] at h1
      · cases h5 : decide (k = 3) <;> rw [h5] at h1 <;> simp at h1; omega
      · simp at h1; rw [h1.2]; simp
    · simp at h1; rw [h1.2]; simp
theorem Tm.valid_small {t : Tm} (h : t.valid = true) : t.small = true := by simp only [Tm.valid, Bool.and_eq_true] at h; exact Tm.shape_small t 30 h.1
theorem Tm.mapv_small {f : Int → Tm} (hf : ∀ n, (f n).small = true) : ∀ (t : Tm), t.small = true → (t.mapv f).small = true := by
  intro t
  induction t using Tm.ind with
  | h k n s ts ih =>
    intro h
    by_cases hk : k = 1
    · rw [Tm.mapv_var f hk]; exact hf n
    · obtain ⟨h1, h2⟩ := Tm.small_mk h
      rw [Tm.mapv_mk f hk]
      simp only [Tm.small, tmsSmall_all, Bool.and_eq_true, decide_eq_true_eq, List.all_eq_true, List.length_map]
      refine ⟨h1, fun x hx => ?_⟩
      obtain ⟨y, hy, rfl⟩ := List.mem_map.1 hx
      exact ih y hy (h2 y hy)

/-! ### The first place -/
def idxP {α : Type} (p : α → Bool) : List α → Int → Int
  | [], _ => -1
  | x :: xs, i => if p x = true then i else idxP p xs (i + 1)
theorem idxP_spec {α : Type} (p : α → Bool) : ∀ (l : List α) (i : Int), 0 ≤ i → (idxP p l i = -1 ∧ l.any p = false) ∨ ∃ (j : Nat) (x : α), idxP p l i = i + j ∧ l[j]? = some x ∧ p x = true ∧ l.any p = true ∧ ∀ (k : Nat) y, k < j → l[k]? = some y → p y = false
  | [], i, _ => .inl ⟨rfl, rfl⟩
  | x :: xs, i, h => by
    by_cases hp : p x = true
    · exact .inr ⟨0, x, by simp [idxP, hp], rfl, hp, by simp [hp], fun k y hk => absurd hk (Nat.not_lt_zero k)⟩
    · rcases idxP_spec p xs (i + 1) (by omega) with ⟨h1, h2⟩ | ⟨j, y, h1, h2, h3, h4, h5⟩
      · exact .inl ⟨by simp [idxP, hp, h1], by simp [hp, h2]⟩
      · refine .inr ⟨j + 1, y, by simp only [idxP, hp, h1]; simp; omega, by simpa using h2, h3, by simp [h4], fun k z hk hz => ?_⟩
        cases k with
        | zero => simp at hz; subst hz; simpa using hp
        | succ k => exact h5 k z (by omega) (by simpa using hz)
theorem idxP_any {α : Type} (p : α → Bool) (l : List α) : decide (0 ≤ idxP p l 0) = l.any p := by
  rcases idxP_spec p l 0 (Int.le_refl 0) with ⟨h1, h2⟩ | ⟨j, y, h1, _, _, h4, _⟩
  · rw [h1, h2]; rfl
  · rw [h1, h4]; simp
theorem findB_idx (bs : List Bd) (n : Int) : (idxP (fun b => decide (b.1 = n)) bs 0 = -1 ∧ findB bs n = none) ∨ ∃ (j : Nat) (b : Bd), idxP (fun b => decide (b.1 = n)) bs 0 = j ∧ bs[j]? = some b ∧ findB bs n = some b.2 := by
  have key : ∀ (l : List Bd) (j : Nat) (b : Bd), l[j]? = some b → b.1 = n → (∀ (k : Nat) y, k < j → l[k]? = some y → ¬ y.1 = n) → findB l n = some b.2 := by
    intro l
    induction l with
    | nil => intro j b h; simp at h
    | cons x l ih =>
      intro j b h hb hlt
      cases j with
      | zero => simp at h; subst h; simp [findB, hb]
      | succ j =>
        have hx := hlt 0 x (by omega) rfl
        obtain ⟨m, t⟩ := x
        simp only [findB, hx, if_false]
        exact ih j b (by simpa using h) hb fun k y hk hy => hlt (k + 1) y (by omega) (by simpa using hy)
  rcases idxP_spec (fun b : Bd => decide (b.1 = n)) bs 0 (Int.le_refl 0) with ⟨h1, h2⟩ | ⟨j, y, h1, h2, h3, _, h5⟩
  · refine .inl ⟨h1, ?_⟩
    clear h1
    induction bs with
    | nil => rfl
    | cons x l ih =>
      obtain ⟨m, t⟩ := x
      simp only [List.any_cons, Bool.or_eq_false_iff, decide_eq_false_iff_not] at h2
      simp only [findB, h2.1, if_false]
      exact ih h2.2
  · refine .inr ⟨j, y, by rw [h1]; omega, h2, key bs j y h2 (by simpa using h3) fun k z hk hz => by simpa using h5 k z hk hz⟩
end Go.AW
