
/- Valid terms and goals: what the program's functions return. -/
import Derived.Test.YtcookjmgjbhkiaaGs7
namespace Go.AW
open Go.Proofs.Try
set_option linter.unusedSimpArgs false
set_option maxRecDepth 100000

theorem c_impl_TermValid (t : Tm) (st : Store) : ACalls prog 74 [t.av] st (fun r st' => r = .bool t.valid ∧ st' = st) := by
  have hd : ACalls prog 74 [t.av] st (fun r st' => Drops st' st ∧ r = .bool t.valid) := by
    refine acalls_fit [] func74 ntmps74 rfl rfl (by kernel_rfl) (by decide +kernel) (by show 1 ≤ _; decide +kernel) ?_
    intro _
    simp -implicitDefEqProofs only [Tm.av_junk, Tm.av_agg, Tm.av_width, evb0, evb1, evb2, evb3, evb4, evb5, evb6, ↓Int.cast_ofNat_Int, implies_true, ne_eq, isMut, aFn, List.contains, List.elem, aBox, aField, aLoad, sub, aNil, aPick, aExt, aFld, gd, noJunk, plainOp, aBuildSlice, aParts, seqParts, fitAll, List.range', ↓reduceIte, reduceCtorEq, Nat.reduceEqDiff, Nat.reduceAdd, Nat.reduceLeDiff, Nat.reduceMul, Nat.reduceLT, Nat.reduceBEq, Int.reduceEq, tI_2, zI_2, underlying2, tI_3, zI_3, underlying3, tI_4, zI_4, underlying4, tI_5, zI_5, underlying5, tI_6, zI_6, underlying6, tI_32, zI_32, fI_32_0, fI_32_1, fI_32_2, fI_32_3, bI_32, tI_70, zI_70, tI_75, zI_75]
    intro b hb
    simp -implicitDefEqProofs only [setCells, Store.upd_upd, Tm.av_junk, Tm.av_agg, Tm.av_width, evb0, evb1, evb2, evb3, evb4, evb5, evb6, ↓Int.cast_ofNat_Int, implies_true, ne_eq, isMut, aFn, List.contains, List.elem, aBox, aField, aLoad, sub, aNil, aPick, aExt, aFld, gd, noJunk, plainOp, aBuildSlice, aParts, seqParts, fitAll, List.range', ↓reduceIte, reduceCtorEq, Nat.reduceEqDiff, Nat.reduceAdd, Nat.reduceLeDiff, Nat.reduceMul, Nat.reduceLT, Nat.reduceBEq, Int.reduceEq, tI_2, zI_2, underlying2, tI_3, zI_3, underlying3, tI_4, zI_4, underlying4, tI_5, zI_5, underlying5, tI_6, zI_6, underlying6, tI_32, zI_32, fI_32_0, fI_32_1, fI_32_2, fI_32_3, bI_32, tI_70, zI_70, tI_75, zI_75]
    refine (c_scan t 1 0 b _ (Store.upd_same _ _ _) (by omega) (by omega) (by omega) (by omega)).mono ?_
    rintro _ _ ⟨c', rfl, rfl, _⟩
    simp -implicitDefEqProofs only [Store.upd_upd, evb0, evb1, evb2, evb3, evb4, evb5, evb6, ↓Int.cast_ofNat_Int, implies_true, ne_eq, isMut, aFn, List.contains, List.elem, aBox, aField, aLoad, sub, aNil, aPick, aExt, aFld, gd, noJunk, plainOp, aBuildSlice, aParts, seqParts, fitAll, List.range', ↓reduceIte, reduceCtorEq, Nat.reduceEqDiff, Nat.reduceAdd, Nat.reduceLeDiff, Nat.reduceMul, Nat.reduceLT, Nat.reduceBEq, Int.reduceEq, tI_2, zI_2, underlying2, tI_3, zI_3, underlying3, tI_4, zI_4, underlying4, tI_5, zI_5, underlying5, tI_6, zI_6, underlying6, tI_32, zI_32, fI_32_0, fI_32_1, fI_32_2, fI_32_3, bI_32, tI_70, zI_70, tI_75, zI_75]
    refine ⟨(Drops.refl st).upd hb, ?_⟩
    simp only [Tm.valid, AV.bool.injEq]
    rw [Bool.and_comm, show (31 : Int) - 1 = 30 from rfl]
    congr 1
    simp only [decide_eq_decide]
    omega
  exact hd.drop

def Tm.goal : Tm → Bool
  | .mk k n s ts => (Tm.mk k n s ts).valid && goalOk k s ts.length

theorem c_spec_GoalValid : ∀ (t : Tm) (st : Store), ACalls prog 62 [t.av] st (fun r st' => r = .bool t.goal ∧ st' = st)
  | .mk k n s ts, st => by
    have h1 := c_spec_TermValid (.mk k n s ts) st
    have h2 := c_l4Goal k n s ts st
    rw [show (Tm.mk k n s ts).goal = ((Tm.mk k n s ts).valid && goalOk k s ts.length) from rfl]
    generalize (Tm.mk k n s ts).valid = z at *
    rw [Tm.av_mk] at *
    refine acalls_fit [] func62 ntmps62 rfl rfl (by kernel_rfl) (by decide +kernel) (by show 1 ≤ _; decide +kernel) ?_
    intro _
    simp -implicitDefEqProofs only [evb0, evb1, evb2, evb3, evb4, evb5, evb6, ↓Int.cast_ofNat_Int, implies_true, ne_eq, isMut, aFn, List.contains, List.elem, aBox, aField, aLoad, sub, aNil, aPick, aExt, aFld, gd, noJunk, plainOp, aBuildSlice, aParts, seqParts, fitAll, List.range', ↓reduceIte, reduceCtorEq, Nat.reduceEqDiff, Nat.reduceAdd, Nat.reduceLeDiff, Nat.reduceMul, Nat.reduceLT, Nat.reduceBEq, Int.reduceEq, tI_2, zI_2, underlying2, tI_3, zI_3, underlying3, tI_4, zI_4, underlying4, tI_6, zI_6, underlying6, tI_7, zI_7, fI_7_0, fI_7_1, fI_7_2, fI_7_3, bI_7, tI_9, zI_9, underlying9, tI_32, zI_32, fI_32_0, fI_32_1, fI_32_2, fI_32_3, bI_32]
    refine h1.to ?_
    simp -implicitDefEqProofs only [evb0, evb1, evb2, evb3, evb4, evb5, evb6, ↓Int.cast_ofNat_Int, implies_true, ne_eq, isMut, aFn, List.contains, List.elem, aBox, aField, aLoad, sub, aNil, aPick, aExt, aFld, gd, noJunk, plainOp, aBuildSlice, aParts, seqParts, fitAll, List.range', ↓reduceIte, reduceCtorEq, Nat.reduceEqDiff, Nat.reduceAdd, Nat.reduceLeDiff, Nat.reduceMul, Nat.reduceLT, Nat.reduceBEq, Int.reduceEq, tI_2, zI_2, underlying2, tI_3, zI_3, underlying3, tI_4, zI_4, underlying4, tI_6, zI_6, underlying6, tI_7, zI_7, fI_7_0, fI_7_1, fI_7_2, fI_7_3, bI_7, tI_9, zI_9, underlying9, tI_32, zI_32, fI_32_0, fI_32_1, fI_32_2, fI_32_3, bI_32]
    refine opsG_split (fun h => ?_) (fun h => ?_)
    · simp -implicitDefEqProofs only [h, evb0, evb1, evb2, evb3, evb4, evb5, evb6, ↓Int.cast_ofNat_Int, implies_true, ne_eq, isMut, aFn, List.contains, List.elem, aBox, aField, aLoad, sub, aNil, aPick, aExt, aFld, gd, noJunk, plainOp, aBuildSlice, aParts, seqParts, fitAll, List.range', ↓reduceIte, reduceCtorEq, Nat.reduceEqDiff, Nat.reduceAdd, Nat.reduceLeDiff, Nat.reduceMul, Nat.reduceLT, Nat.reduceBEq, Int.reduceEq, tI_2, zI_2, underlying2, tI_3, zI_3, underlying3, tI_4, zI_4, underlying4, tI_6, zI_6, underlying6, tI_7, zI_7, fI_7_0, fI_7_1, fI_7_2, fI_7_3, bI_7, tI_9, zI_9, underlying9, tI_32, zI_32, fI_32_0, fI_32_1, fI_32_2, fI_32_3, bI_32]
      refine h2.to ?_
      simp -implicitDefEqProofs only [h, evb0, evb1, evb2, evb3, evb4, evb5, evb6, ↓Int.cast_ofNat_Int, implies_true, ne_eq, isMut, aFn, List.contains, List.elem, aBox, aField, aLoad, sub, aNil, aPick, aExt, aFld, gd, noJunk, plainOp, aBuildSlice, aParts, seqParts, fitAll, List.range', ↓reduceIte, reduceCtorEq, Nat.reduceEqDiff, Nat.reduceAdd, Nat.reduceLeDiff, Nat.reduceMul, Nat.reduceLT, Nat.reduceBEq, Int.reduceEq, tI_2, zI_2, underlying2, tI_3, zI_3, underlying3, tI_4, zI_4, underlying4, tI_6, zI_6, underlying6, tI_7, zI_7, fI_7_0, fI_7_1, fI_7_2, fI_7_3, bI_7, tI_9, zI_9, underlying9, tI_32, zI_32, fI_32_0, fI_32_1, fI_32_2, fI_32_3, bI_32]
    · simp -implicitDefEqProofs only [h, evb0, evb1, evb2, evb3, evb4, evb5, evb6, ↓Int.cast_ofNat_Int, implies_true, ne_eq, isMut, aFn, List.contains, List.elem, aBox, aField, aLoad, sub, aNil, aPick, aExt, aFld, gd, noJunk, plainOp, aBuildSlice, aParts, seqParts, fitAll, List.range', ↓reduceIte, reduceCtorEq, Nat.reduceEqDiff, Nat.reduceAdd, Nat.reduceLeDiff, Nat.reduceMul, Nat.reduceLT, Nat.reduceBEq, Int.reduceEq, tI_2, zI_2, underlying2, tI_3, zI_3, underlying3, tI_4, zI_4, underlying4, tI_6, zI_6, underlying6, tI_7, zI_7, fI_7_0, fI_7_1, fI_7_2, fI_7_3, bI_7, tI_9, zI_9, underlying9, tI_32, zI_32, fI_32_0, fI_32_1, fI_32_2, fI_32_3, bI_32]
      simp at h
      simp [h]

theorem c_impl_GoalValid : ∀ (t : Tm) (st : Store), ACalls prog 63 [t.av] st (fun r st' => r = .bool t.goal ∧ st' = st)
  | .mk k n s ts, st => by
    have h1 := c_impl_TermValid (.mk k n s ts) st
    have h2 := c_isPlain k n s ts st
    have h3 := c_isBuilt k n s ts st
    have h4 := c_isCut k n s ts st
    rw [show (Tm.mk k n s ts).goal = ((Tm.mk k n s ts).valid && goalOk k s ts.length) from rfl]
    unfold goalOk
    generalize (Tm.mk k n s ts).valid = z at *
    generalize plainGoal k s (ts.length : Int) = z2 at *
    generalize (decide (k = 3) && isBuiltin s (ts.length : Int)) = z3 at *
    rw [show (decide (k = 3) && decide (s = ⟨#[33]⟩) && decide ((ts.length : Int) = 0)) = (decide (k = 3) && decide ((ts.length : Int) = 0) && decide (s = ⟨#[33]⟩)) from by cases decide (k = 3) <;> cases decide (s = ⟨#[33]⟩) <;> cases decide ((ts.length : Int) = 0) <;> rfl]
    generalize (decide (k = 3) && decide ((ts.length : Int) = 0) && decide (s = ⟨#[33]⟩)) = z4 at *
    rw [Tm.av_mk] at *
    refine acalls_fit [] func63 ntmps63 rfl rfl (by kernel_rfl) (by decide +kernel) (by show 1 ≤ _; decide +kernel) ?_
    intro _
    repeat' (first
      | (simp -implicitDefEqProofs only [*, evb0, evb1, evb2, evb3, evb4, evb5, evb6, ↓Int.cast_ofNat_Int, implies_true, ne_eq, isMut, aFn, List.contains, List.elem, aBox, aField, aLoad, sub, aNil, aPick, aExt, aFld, gd, noJunk, plainOp, aBuildSlice, aParts, seqParts, fitAll, List.range', ↓reduceIte, reduceCtorEq, Nat.reduceEqDiff, Nat.reduceAdd, Nat.reduceLeDiff, Nat.reduceMul, Nat.reduceLT, Nat.reduceBEq, Int.reduceEq, tI_2, zI_2, underlying2, tI_3, zI_3, underlying3, tI_4, zI_4, underlying4, tI_5, zI_5, underlying5, tI_6, zI_6, underlying6, tI_7, zI_7, fI_7_0, fI_7_1, fI_7_2, fI_7_3, bI_7, tI_9, zI_9, underlying9, tI_10, zI_10, underlying10, tI_13, zI_13, fI_13_0, fI_13_1, bI_13, tI_14, zI_14, fI_14_0, fI_14_1, bI_14, tI_17, zI_17, tI_32, zI_32, fI_32_0, fI_32_1, fI_32_2, fI_32_3, bI_32])
      | (refine opsG_split (fun h => ?_) (fun h => ?_))
      | (refine h1.to ?_) | (refine h2.to ?_) | (refine h3.to ?_) | (refine h4.to ?_)
      | (refine cond_split (fun h => ?_) (fun h => ?_)))
    all_goals (clear h1 h2 h3 h4; simp_all)
end Go.AW
