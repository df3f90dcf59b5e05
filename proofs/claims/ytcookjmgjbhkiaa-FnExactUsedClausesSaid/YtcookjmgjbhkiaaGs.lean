
/- Names and goals: what the reference's and the program's functions return. -/
import Derived.Test.YtcookjmgjbhkiaaGd
import Derived.Test.YtcookjmgjbhkiaaTf
namespace Go.AW
open Go.Proofs.Try
set_option linter.unusedSimpArgs false
set_option maxRecDepth 100000

theorem c_within (n lo hi : Int) (st : Store) : ACalls prog 64 [.int .i64 n, .int .i64 lo, .int .i64 hi] st (fun r st' => r = .bool (decide (lo ≤ n) && decide (n ≤ hi)) ∧ st' = st) := by
  refine acalls_fit [] func64 ntmps64 rfl rfl (by kernel_rfl) (by decide +kernel) (by show 3 ≤ _; decide +kernel) ?_
  intro _
  repeat' (first
    | (simp -implicitDefEqProofs only [*, evb0, evb1, evb2, evb3, evb4, evb5, evb6, ↓Int.cast_ofNat_Int, implies_true, ne_eq, isMut, aFn, List.contains, List.elem, aBox, aField, aLoad, sub, aNil, aPick, aExt, aFld, gd, noJunk, plainOp, aBuildSlice, aParts, seqParts, fitAll, List.range', ↓reduceIte, reduceCtorEq, Nat.reduceEqDiff, Nat.reduceAdd, Nat.reduceLeDiff, Nat.reduceMul, Nat.reduceLT, Nat.reduceBEq, Int.reduceEq, tI_3, zI_3, underlying3, tI_4, zI_4, underlying4, tI_15, zI_15])
    | (refine opsG_split (fun h => ?_) (fun h => ?_))
    
    | (refine cond_split (fun h => ?_) (fun h => ?_)))
  all_goals simp_all

theorem c_OpLevel (s : ByteArray) (st : Store) : ACalls prog 103 [.str s] st (fun r st' => r = .tup [.int .i64 (opLevel s), .bool (opLevel s == 1 || opLevel s == 2)] ∧ st' = st) := by
  refine acalls_fit [] func103 ntmps103 rfl rfl (by kernel_rfl) (by decide +kernel) (by show 1 ≤ _; decide +kernel) ?_
  intro _
  repeat' (first
    | (simp -implicitDefEqProofs only [*, evb0, evb1, evb2, evb3, evb4, evb5, evb6, ↓Int.cast_ofNat_Int, implies_true, ne_eq, isMut, aFn, List.contains, List.elem, aBox, aField, aLoad, sub, aNil, aPick, aExt, aFld, gd, noJunk, plainOp, aBuildSlice, aParts, seqParts, fitAll, List.range', ↓reduceIte, reduceCtorEq, Nat.reduceEqDiff, Nat.reduceAdd, Nat.reduceLeDiff, Nat.reduceMul, Nat.reduceLT, Nat.reduceBEq, Int.reduceEq, tI_2, zI_2, underlying2, tI_3, zI_3, underlying3, tI_4, zI_4, underlying4, tI_5, zI_5, underlying5, tI_6, zI_6, underlying6, tI_7, zI_7, fI_7_0, fI_7_1, fI_7_2, fI_7_3, bI_7, tI_8, zI_8, fI_8_0, fI_8_1, fI_8_2, fI_8_3, bI_8, tI_9, zI_9, underlying9, tI_10, zI_10, underlying10, tI_11, zI_11, underlying11, tI_12, zI_12, underlying12, tI_13, zI_13, fI_13_0, fI_13_1, bI_13, tI_14, zI_14, fI_14_0, fI_14_1, bI_14, tI_15, zI_15, tI_16, zI_16, tI_17, zI_17, tI_18, zI_18, fI_18_0, bI_18, tI_19, zI_19, fI_19_0, bI_19, tI_22, zI_22, eI_22, eB_22, eZ_22, underlying22, tI_47, zI_47, fI_47_0, bI_47, tI_111, zI_111, eI_111, eB_111, eZ_111, underlying111, tI_115, zI_115, fI_115_0, fI_115_1, fI_115_2, fI_115_3, bI_115])
    | (refine opsG_split (fun h => ?_) (fun h => ?_))
    
    | (refine cond_split (fun h => ?_) (fun h => ?_)))
  all_goals (simp only [opLevel, *, Bool.or_true, Bool.true_or, Bool.or_false, Bool.false_or, Bool.or_self, cond_true, cond_false]; first | done | rfl)

theorem c_l2Level (s : ByteArray) (st : Store) : ACalls prog 102 [.str s] st (fun r st' => r = .int .i64 (opLevel s) ∧ st' = st) := by
  refine acalls_fit [] func102 ntmps102 rfl rfl (by kernel_rfl) (by decide +kernel) (by show 1 ≤ _; decide +kernel) ?_
  intro _
  repeat' (first
    | (simp -implicitDefEqProofs only [*, evb0, evb1, evb2, evb3, evb4, evb5, evb6, ↓Int.cast_ofNat_Int, implies_true, ne_eq, isMut, aFn, List.contains, List.elem, aBox, aField, aLoad, sub, aNil, aPick, aExt, aFld, gd, noJunk, plainOp, aBuildSlice, aParts, seqParts, fitAll, List.range', ↓reduceIte, reduceCtorEq, Nat.reduceEqDiff, Nat.reduceAdd, Nat.reduceLeDiff, Nat.reduceMul, Nat.reduceLT, Nat.reduceBEq, Int.reduceEq, tI_2, zI_2, underlying2, tI_3, zI_3, underlying3, tI_4, zI_4, underlying4, tI_5, zI_5, underlying5, tI_6, zI_6, underlying6, tI_7, zI_7, fI_7_0, fI_7_1, fI_7_2, fI_7_3, bI_7, tI_8, zI_8, fI_8_0, fI_8_1, fI_8_2, fI_8_3, bI_8, tI_9, zI_9, underlying9, tI_10, zI_10, underlying10, tI_11, zI_11, underlying11, tI_12, zI_12, underlying12, tI_13, zI_13, fI_13_0, fI_13_1, bI_13, tI_14, zI_14, fI_14_0, fI_14_1, bI_14, tI_15, zI_15, tI_16, zI_16, tI_17, zI_17, tI_18, zI_18, fI_18_0, bI_18, tI_19, zI_19, fI_19_0, bI_19, tI_21, zI_21, underlying21, tI_47, zI_47, fI_47_0, bI_47, tI_111, zI_111, eI_111, eB_111, eZ_111, underlying111, tI_115, zI_115, fI_115_0, fI_115_1, fI_115_2, fI_115_3, bI_115])
    | (refine opsG_split (fun h => ?_) (fun h => ?_))
    
    | (refine cond_split (fun h => ?_) (fun h => ?_)))
  all_goals (simp only [opLevel, *, Bool.or_true, Bool.true_or, Bool.or_false, Bool.false_or, Bool.or_self, cond_true, cond_false]; first | done | rfl)

theorem c_impl_IsBuiltin (s : ByteArray) (n : Int) (st : Store) : ACalls prog 95 [.str s, .int .i64 n] st (fun r st' => r = .bool (isBuiltin s n) ∧ st' = st) := by
  refine acalls_fit [] func95 ntmps95 rfl rfl (by kernel_rfl) (by decide +kernel) (by show 2 ≤ _; decide +kernel) ?_
  intro _
  repeat' (first
    | (simp -implicitDefEqProofs only [*, evb0, evb1, evb2, evb3, evb4, evb5, evb6, ↓Int.cast_ofNat_Int, implies_true, ne_eq, isMut, aFn, List.contains, List.elem, aBox, aField, aLoad, sub, aNil, aPick, aExt, aFld, gd, noJunk, plainOp, aBuildSlice, aParts, seqParts, fitAll, List.range', ↓reduceIte, reduceCtorEq, Nat.reduceEqDiff, Nat.reduceAdd, Nat.reduceLeDiff, Nat.reduceMul, Nat.reduceLT, Nat.reduceBEq, Int.reduceEq, tI_2, zI_2, underlying2, tI_3, zI_3, underlying3, tI_4, zI_4, underlying4, tI_5, zI_5, underlying5, tI_6, zI_6, underlying6, tI_7, zI_7, fI_7_0, fI_7_1, fI_7_2, fI_7_3, bI_7, tI_8, zI_8, fI_8_0, fI_8_1, fI_8_2, fI_8_3, bI_8, tI_9, zI_9, underlying9, tI_10, zI_10, underlying10, tI_11, zI_11, underlying11, tI_12, zI_12, underlying12, tI_13, zI_13, fI_13_0, fI_13_1, bI_13, tI_14, zI_14, fI_14_0, fI_14_1, bI_14, tI_15, zI_15, tI_16, zI_16, tI_17, zI_17, tI_18, zI_18, fI_18_0, bI_18, tI_19, zI_19, fI_19_0, bI_19, tI_21, zI_21, underlying21, tI_22, zI_22, eI_22, eB_22, eZ_22, underlying22, tI_34, zI_34, fI_34_0, fI_34_1, fI_34_2, bI_34, tI_97, zI_97, eI_97, eB_97, eZ_97, underlying97, tI_111, zI_111, eI_111, eB_111, eZ_111, underlying111, tI_115, zI_115, fI_115_0, fI_115_1, fI_115_2, fI_115_3, bI_115, tI_116, zI_116, fI_116_0, fI_116_1, fI_116_2, fI_116_3, bI_116, tI_117, zI_117, aI_117, tI_118, zI_118, bI_118])
    | (refine opsG_split (fun h => ?_) (fun h => ?_))
    
    | (refine cond_split (fun h => ?_) (fun h => ?_)))
  all_goals (simp only [isBuiltin, *, Bool.or_true, Bool.true_or, Bool.or_false, Bool.false_or, Bool.or_self, cond_true, cond_false]; first | done | rfl)

theorem c_spec_IsBuiltin (s : ByteArray) (n : Int) (st : Store) : ACalls prog 92 [.str s, .int .i64 n] st (fun r st' => r = .bool (isBuiltin s n) ∧ st' = st) := by
  refine acalls_fit [] func92 ntmps92 rfl rfl (by kernel_rfl) (by decide +kernel) (by show 2 ≤ _; decide +kernel) ?_
  intro _
  repeat' (first
    | (simp -implicitDefEqProofs only [*, evb0, evb1, evb2, evb3, evb4, evb5, evb6, ↓Int.cast_ofNat_Int, implies_true, ne_eq, isMut, aFn, List.contains, List.elem, aBox, aField, aLoad, sub, aNil, aPick, aExt, aFld, gd, noJunk, plainOp, aBuildSlice, aParts, seqParts, fitAll, List.range', ↓reduceIte, reduceCtorEq, Nat.reduceEqDiff, Nat.reduceAdd, Nat.reduceLeDiff, Nat.reduceMul, Nat.reduceLT, Nat.reduceBEq, Int.reduceEq, tI_2, zI_2, underlying2, tI_3, zI_3, underlying3, tI_4, zI_4, underlying4, tI_5, zI_5, underlying5, tI_6, zI_6, underlying6, tI_7, zI_7, fI_7_0, fI_7_1, fI_7_2, fI_7_3, bI_7, tI_8, zI_8, fI_8_0, fI_8_1, fI_8_2, fI_8_3, bI_8, tI_9, zI_9, underlying9, tI_10, zI_10, underlying10, tI_11, zI_11, underlying11, tI_12, zI_12, underlying12, tI_13, zI_13, fI_13_0, fI_13_1, bI_13, tI_14, zI_14, fI_14_0, fI_14_1, bI_14, tI_15, zI_15, tI_16, zI_16, tI_17, zI_17, tI_18, zI_18, fI_18_0, bI_18, tI_19, zI_19, fI_19_0, bI_19, tI_21, zI_21, underlying21, tI_22, zI_22, eI_22, eB_22, eZ_22, underlying22, tI_34, zI_34, fI_34_0, fI_34_1, fI_34_2, bI_34, tI_97, zI_97, eI_97, eB_97, eZ_97, underlying97, tI_111, zI_111, eI_111, eB_111, eZ_111, underlying111, tI_115, zI_115, fI_115_0, fI_115_1, fI_115_2, fI_115_3, bI_115, tI_116, zI_116, fI_116_0, fI_116_1, fI_116_2, fI_116_3, bI_116, tI_117, zI_117, aI_117, tI_118, zI_118, bI_118])
    | (refine opsG_split (fun h => ?_) (fun h => ?_))
    
    | (refine cond_split (fun h => ?_) (fun h => ?_)))
  all_goals (simp only [isBuiltin, *, Bool.or_true, Bool.true_or, Bool.or_false, Bool.false_or, Bool.or_self, cond_true, cond_false]; first | done | rfl)
end Go.AW
