import Derived.Test.YtccofeljgfmplaaUgFino
import Derived.Test.YtccofeljgfmplaaUgFinj

/- Draws: elements of lists, the source, small terms. -/
namespace Go.AW
open Go.Proofs.Try
set_option linter.unusedSimpArgs false
set_option maxRecDepth 100000

theorem tf_D2_106 : (type_of% tI_3) ∧ (type_of% zI_3) ∧ (type_of% Go.Proofs.Try.underlying3) ∧ (type_of% tI_6) ∧ (type_of% zI_6) ∧ (type_of% Go.Proofs.Try.underlying6) ∧ (type_of% tI_7) ∧ (type_of% zI_7) ∧ (type_of% fI_7_0) ∧ (type_of% fI_7_1) ∧ (type_of% fI_7_2) ∧ (type_of% fI_7_3) ∧ (type_of% bI_7) ∧ (type_of% tI_8) ∧ (type_of% zI_8) ∧ (type_of% fI_8_0) ∧ (type_of% fI_8_1) ∧ (type_of% fI_8_2) ∧ (type_of% fI_8_3) ∧ (type_of% bI_8) ∧ (type_of% tI_9) ∧ (type_of% zI_9) ∧ (type_of% Go.Proofs.Try.underlying9) ∧ (type_of% tI_12) ∧ (type_of% zI_12) ∧ (type_of% Go.Proofs.Try.underlying12) ∧ (type_of% tI_18) ∧ (type_of% zI_18) ∧ (type_of% fI_18_0) ∧ (type_of% bI_18) ∧ (type_of% tI_64) ∧ (type_of% zI_64) ∧ (type_of% fI_64_0) ∧ (type_of% fI_64_1) ∧ (type_of% bI_64) ∧ (type_of% tI_93) ∧ (type_of% zI_93) ∧ (type_of% eI_93) ∧ (type_of% eB_93) ∧ (type_of% eZ_93) ∧ (type_of% Go.Proofs.Try.underlying93) ∧ (type_of% tI_120) ∧ (type_of% zI_120) ∧ (type_of% fI_120_0) ∧ (type_of% fI_120_1) ∧ (type_of% fI_120_2) ∧ (type_of% fI_120_3) ∧ (type_of% fI_120_4) ∧ (type_of% fI_120_5) ∧ (type_of% fI_120_6) ∧ (type_of% bI_120) ∧ (type_of% tI_140) ∧ (type_of% zI_140) := ⟨tI_3, zI_3, Go.Proofs.Try.underlying3, tI_6, zI_6, Go.Proofs.Try.underlying6, tI_7, zI_7, fI_7_0, fI_7_1, fI_7_2, fI_7_3, bI_7, tI_8, zI_8, fI_8_0, fI_8_1, fI_8_2, fI_8_3, bI_8, tI_9, zI_9, Go.Proofs.Try.underlying9, tI_12, zI_12, Go.Proofs.Try.underlying12, tI_18, zI_18, fI_18_0, bI_18, tI_64, zI_64, fI_64_0, fI_64_1, bI_64, tI_93, zI_93, eI_93, eB_93, eZ_93, Go.Proofs.Try.underlying93, tI_120, zI_120, fI_120_0, fI_120_1, fI_120_2, fI_120_3, fI_120_4, fI_120_5, fI_120_6, bI_120, tI_140, zI_140⟩
theorem c_num (l : List Int) (h1 : 1 ≤ l.length) (h2 : l.length ≤ 1048576) (bs : List Bt) (c p : Nat) (hp : p ≤ 1099511627776) (st : Store) (h : RdAt st c bs p) :
    ACalls prog 106 [.ptr c 0, .slice (l.map iv)] st (fun r st' => ∃ x ∈ l, r = .int .i64 x ∧ st' = st.upd c (rdC bs (p + 1))) := by
  refine acalls_fit [1000000] func106 ntmps106 rfl rfl (by kernel_rfl) (by decide +kernel) (by show 2 ≤ _; decide +kernel) ?_
  intro _
  simp -implicitDefEqProofs only [List.length_map, evb0, evb1, evb2, evb3, evb4, evb5, evb6, evb7, evb8, evb9, ↓evZ2, ↓evZ3, ↓Int.cast_ofNat_Int, implies_true, ne_eq, or_false, false_or, or_self, gt_iff_lt, isMut, aFn, List.contains, List.elem, aBox, aField, aLoad, sub, aNil, aPick, aExt, aFld, gd, noJunk, plainOp, aBuildSlice, aBuild, aFill, aParts, seqParts, fitAll, List.range', ↓reduceIte, reduceCtorEq, Nat.reduceEqDiff, Nat.reduceAdd, Nat.reduceLeDiff, Nat.reduceMul, Nat.reduceLT, Nat.reduceBEq, Int.reduceEq, tf_D2_106]
  refine (c_pick bs c p hp l.length h1 h2 st h).mono ?_
  rintro _ _ ⟨k, hk, rfl, rfl⟩
  obtain ⟨x, hx⟩ : ∃ x, l[k]? = some x := ⟨_, List.getElem?_eq_getElem hk⟩
  have hat := ev_at (av := iv) eI_93 hx rfl
  simp -implicitDefEqProofs only [hat, List.length_map, evb0, evb1, evb2, evb3, evb4, evb5, evb6, evb7, evb8, evb9, ↓evZ2, ↓evZ3, ↓Int.cast_ofNat_Int, implies_true, ne_eq, or_false, false_or, or_self, gt_iff_lt, isMut, aFn, List.contains, List.elem, aBox, aField, aLoad, sub, aNil, aPick, aExt, aFld, gd, noJunk, plainOp, aBuildSlice, aBuild, aFill, aParts, seqParts, fitAll, List.range', ↓reduceIte, reduceCtorEq, Nat.reduceEqDiff, Nat.reduceAdd, Nat.reduceLeDiff, Nat.reduceMul, Nat.reduceLT, Nat.reduceBEq, Int.reduceEq, tf_D2_106]
  exact ⟨x, List.mem_of_getElem? hx, rfl⟩
theorem c_numF (l : List Int) (h1 : 1 ≤ l.length) (h2 : l.length ≤ 1048576) (bs : List Bt) (c p : Nat) (hp : p ≤ 1099511627776) (st : Store) (h : RdAt st c bs p) :
    ACalls prog 106 [.ptr c 0, .fslice (l.map iv)] st (fun r st' => ∃ x ∈ l, r = .int .i64 x ∧ st' = st.upd c (rdC bs (p + 1))) :=
  ACalls.softArgs (by simp only [softL, AV.soft]; exact c_num l h1 h2 bs c p hp st h)

theorem tf_D2_145 : (type_of% tI_3) ∧ (type_of% zI_3) ∧ (type_of% Go.Proofs.Try.underlying3) ∧ (type_of% tI_6) ∧ (type_of% zI_6) ∧ (type_of% Go.Proofs.Try.underlying6) ∧ (type_of% tI_7) ∧ (type_of% zI_7) ∧ (type_of% fI_7_0) ∧ (type_of% fI_7_1) ∧ (type_of% fI_7_2) ∧ (type_of% fI_7_3) ∧ (type_of% bI_7) ∧ (type_of% tI_8) ∧ (type_of% zI_8) ∧ (type_of% fI_8_0) ∧ (type_of% fI_8_1) ∧ (type_of% fI_8_2) ∧ (type_of% fI_8_3) ∧ (type_of% bI_8) ∧ (type_of% tI_9) ∧ (type_of% zI_9) ∧ (type_of% Go.Proofs.Try.underlying9) ∧ (type_of% tI_12) ∧ (type_of% zI_12) ∧ (type_of% Go.Proofs.Try.underlying12) ∧ (type_of% tI_18) ∧ (type_of% zI_18) ∧ (type_of% fI_18_0) ∧ (type_of% bI_18) ∧ (type_of% tI_120) ∧ (type_of% zI_120) ∧ (type_of% fI_120_0) ∧ (type_of% fI_120_1) ∧ (type_of% fI_120_2) ∧ (type_of% fI_120_3) ∧ (type_of% fI_120_4) ∧ (type_of% fI_120_5) ∧ (type_of% fI_120_6) ∧ (type_of% bI_120) ∧ (type_of% tI_140) ∧ (type_of% zI_140) ∧ (type_of% tI_182) ∧ (type_of% zI_182) ∧ (type_of% eI_182) ∧ (type_of% eB_182) ∧ (type_of% eZ_182) ∧ (type_of% Go.Proofs.Try.underlying182) := ⟨tI_3, zI_3, Go.Proofs.Try.underlying3, tI_6, zI_6, Go.Proofs.Try.underlying6, tI_7, zI_7, fI_7_0, fI_7_1, fI_7_2, fI_7_3, bI_7, tI_8, zI_8, fI_8_0, fI_8_1, fI_8_2, fI_8_3, bI_8, tI_9, zI_9, Go.Proofs.Try.underlying9, tI_12, zI_12, Go.Proofs.Try.underlying12, tI_18, zI_18, fI_18_0, bI_18, tI_120, zI_120, fI_120_0, fI_120_1, fI_120_2, fI_120_3, fI_120_4, fI_120_5, fI_120_6, bI_120, tI_140, zI_140, tI_182, zI_182, eI_182, eB_182, eZ_182, Go.Proofs.Try.underlying182⟩
theorem c_of (l : List ByteArray) (h1 : 1 ≤ l.length) (h2 : l.length ≤ 1048576) (bs : List Bt) (c p : Nat) (hp : p ≤ 1099511627776) (st : Store) (h : RdAt st c bs p) :
    ACalls prog 145 [.ptr c 0, .slice (l.map AV.str)] st (fun r st' => ∃ x ∈ l, r = .str x ∧ st' = st.upd c (rdC bs (p + 1))) := by
  refine acalls_fit [1000000] func145 ntmps145 rfl rfl (by kernel_rfl) (by decide +kernel) (by show 2 ≤ _; decide +kernel) ?_
  intro _
  simp -implicitDefEqProofs only [List.length_map, evb0, evb1, evb2, evb3, evb4, evb5, evb6, evb7, evb8, evb9, ↓evZ2, ↓evZ3, ↓Int.cast_ofNat_Int, implies_true, ne_eq, or_false, false_or, or_self, gt_iff_lt, isMut, aFn, List.contains, List.elem, aBox, aField, aLoad, sub, aNil, aPick, aExt, aFld, gd, noJunk, plainOp, aBuildSlice, aBuild, aFill, aParts, seqParts, fitAll, List.range', ↓reduceIte, reduceCtorEq, Nat.reduceEqDiff, Nat.reduceAdd, Nat.reduceLeDiff, Nat.reduceMul, Nat.reduceLT, Nat.reduceBEq, Int.reduceEq, tf_D2_145]
  refine (c_pick bs c p hp l.length h1 h2 st h).mono ?_
  rintro _ _ ⟨k, hk, rfl, rfl⟩
  obtain ⟨x, hx⟩ : ∃ x, l[k]? = some x := ⟨_, List.getElem?_eq_getElem hk⟩
  have hat := ev_at (av := AV.str) eI_182 hx rfl
  simp -implicitDefEqProofs only [hat, List.length_map, evb0, evb1, evb2, evb3, evb4, evb5, evb6, evb7, evb8, evb9, ↓evZ2, ↓evZ3, ↓Int.cast_ofNat_Int, implies_true, ne_eq, or_false, false_or, or_self, gt_iff_lt, isMut, aFn, List.contains, List.elem, aBox, aField, aLoad, sub, aNil, aPick, aExt, aFld, gd, noJunk, plainOp, aBuildSlice, aBuild, aFill, aParts, seqParts, fitAll, List.range', ↓reduceIte, reduceCtorEq, Nat.reduceEqDiff, Nat.reduceAdd, Nat.reduceLeDiff, Nat.reduceMul, Nat.reduceLT, Nat.reduceBEq, Int.reduceEq, tf_D2_145]
  exact ⟨x, List.mem_of_getElem? hx, rfl⟩
theorem c_ofF (l : List ByteArray) (h1 : 1 ≤ l.length) (h2 : l.length ≤ 1048576) (bs : List Bt) (c p : Nat) (hp : p ≤ 1099511627776) (st : Store) (h : RdAt st c bs p) :
    ACalls prog 145 [.ptr c 0, .fslice (l.map AV.str)] st (fun r st' => ∃ x ∈ l, r = .str x ∧ st' = st.upd c (rdC bs (p + 1))) :=
  ACalls.softArgs (by simp only [softL, AV.soft]; exact c_of l h1 h2 bs c p hp st h)

theorem tf_D2_103 : (type_of% tI_2) ∧ (type_of% zI_2) ∧ (type_of% Go.Proofs.Try.underlying2) ∧ (type_of% tI_3) ∧ (type_of% zI_3) ∧ (type_of% Go.Proofs.Try.underlying3) ∧ (type_of% tI_4) ∧ (type_of% zI_4) ∧ (type_of% Go.Proofs.Try.underlying4) ∧ (type_of% tI_10) ∧ (type_of% zI_10) ∧ (type_of% Go.Proofs.Try.underlying10) ∧ (type_of% tI_11) ∧ (type_of% zI_11) ∧ (type_of% Go.Proofs.Try.underlying11) ∧ (type_of% tI_18) ∧ (type_of% zI_18) ∧ (type_of% fI_18_0) ∧ (type_of% bI_18) ∧ (type_of% tI_39) ∧ (type_of% zI_39) ∧ (type_of% eI_39) ∧ (type_of% eB_39) ∧ (type_of% eZ_39) ∧ (type_of% Go.Proofs.Try.underlying39) ∧ (type_of% tI_64) ∧ (type_of% zI_64) ∧ (type_of% fI_64_0) ∧ (type_of% fI_64_1) ∧ (type_of% bI_64) ∧ (type_of% tI_140) ∧ (type_of% zI_140) ∧ (type_of% tI_180) ∧ (type_of% zI_180) ∧ (type_of% fI_180_0) ∧ (type_of% fI_180_1) ∧ (type_of% bI_180) := ⟨tI_2, zI_2, Go.Proofs.Try.underlying2, tI_3, zI_3, Go.Proofs.Try.underlying3, tI_4, zI_4, Go.Proofs.Try.underlying4, tI_10, zI_10, Go.Proofs.Try.underlying10, tI_11, zI_11, Go.Proofs.Try.underlying11, tI_18, zI_18, fI_18_0, bI_18, tI_39, zI_39, eI_39, eB_39, eZ_39, Go.Proofs.Try.underlying39, tI_64, zI_64, fI_64_0, fI_64_1, bI_64, tI_140, zI_140, tI_180, zI_180, fI_180_0, fI_180_1, bI_180⟩
theorem c_l18Open (bs : List Bt) (st : Store) : ACalls prog 103 [.slice (bs.map byteAv)] st (fun r st' => ∃ c bs', r = .ptr c 0 ∧ st c = none ∧ st' = st.upd c (rdC bs' 0)) := by
  refine acalls_fit [1000000, 10] func103 ntmps103 rfl rfl (by kernel_rfl) (by decide +kernel) (by show 1 ≤ _; decide +kernel) ?_
  simp only [fitsL, AV.fits, and_true, List.length_map]
  intro ⟨hl, _⟩
  have hs : bs.length > 2000 → ∀ φ, aSlice prog φ 39 (.slice (bs.map byteAv)) none (some (.const (.int .i64 2000))) none = some (.slice ((bs.take 2000).map byteAv)) := fun h φ => by
    have h2 : ((0 : Int) ≤ 2000 ∧ (2000 : Int) ≤ (bs.map byteAv).length) := ⟨by omega, by rw [List.length_map]; omega⟩
    have h3 : aBound φ (some (.const (.int .i64 2000))) (bs.map byteAv).length (bs.map byteAv).length = some 2000 := by
      show (if ((0 : Int) ≤ 2000 ∧ (2000 : Int) ≤ (bs.map byteAv).length) then some (Int.toNat 2000) else none) = some 2000
      exact if_pos h2
    unfold aSlice
    simp only [eI_39]
    have h4 : aBound φ none (bs.map byteAv).length (bs.map byteAv).length = some (bs.map byteAv).length := rfl
    rw [h4]
    simp only [h3]
    have h5 : aBound φ none 0 2000 = some 0 := rfl
    rw [h5]
    simp
  simp -implicitDefEqProofs only [List.length_map, evb0, evb1, evb2, evb3, evb4, evb5, evb6, evb7, evb8, evb9, ↓evZ2, ↓evZ3, ↓Int.cast_ofNat_Int, implies_true, ne_eq, or_false, false_or, or_self, gt_iff_lt, isMut, aFn, List.contains, List.elem, aBox, aField, aLoad, sub, aNil, aPick, aExt, aFld, gd, noJunk, plainOp, aBuildSlice, aBuild, aFill, aParts, seqParts, fitAll, List.range', ↓reduceIte, reduceCtorEq, Nat.reduceEqDiff, Nat.reduceAdd, Nat.reduceLeDiff, Nat.reduceMul, Nat.reduceLT, Nat.reduceBEq, Int.reduceEq, tf_D2_103]
  refine cond_split (fun h => ?_) (fun h => ?_)
  · simp only [decide_eq_true_eq] at h
    have hs' := hs (by omega)
    simp -implicitDefEqProofs only [hs', List.length_map, evb0, evb1, evb2, evb3, evb4, evb5, evb6, evb7, evb8, evb9, ↓evZ2, ↓evZ3, ↓Int.cast_ofNat_Int, implies_true, ne_eq, or_false, false_or, or_self, gt_iff_lt, isMut, aFn, List.contains, List.elem, aBox, aField, aLoad, sub, aNil, aPick, aExt, aFld, gd, noJunk, plainOp, aBuildSlice, aBuild, aFill, aParts, seqParts, fitAll, List.range', ↓reduceIte, reduceCtorEq, Nat.reduceEqDiff, Nat.reduceAdd, Nat.reduceLeDiff, Nat.reduceMul, Nat.reduceLT, Nat.reduceBEq, Int.reduceEq, tf_D2_103]
    intro b hb
    exact ⟨b, bs.take 2000, rfl, hb, by simp [rdC]⟩
  · simp -implicitDefEqProofs only [List.length_map, evb0, evb1, evb2, evb3, evb4, evb5, evb6, evb7, evb8, evb9, ↓evZ2, ↓evZ3, ↓Int.cast_ofNat_Int, implies_true, ne_eq, or_false, false_or, or_self, gt_iff_lt, isMut, aFn, List.contains, List.elem, aBox, aField, aLoad, sub, aNil, aPick, aExt, aFld, gd, noJunk, plainOp, aBuildSlice, aBuild, aFill, aParts, seqParts, fitAll, List.range', ↓reduceIte, reduceCtorEq, Nat.reduceEqDiff, Nat.reduceAdd, Nat.reduceLeDiff, Nat.reduceMul, Nat.reduceLT, Nat.reduceBEq, Int.reduceEq, tf_D2_103]
    intro b hb
    exact ⟨b, bs, rfl, hb, by simp [rdC]⟩

theorem tf_D2_148 : (type_of% tI_2) ∧ (type_of% zI_2) ∧ (type_of% Go.Proofs.Try.underlying2) ∧ (type_of% tI_3) ∧ (type_of% zI_3) ∧ (type_of% Go.Proofs.Try.underlying3) ∧ (type_of% tI_5) ∧ (type_of% zI_5) ∧ (type_of% Go.Proofs.Try.underlying5) ∧ (type_of% tI_41) ∧ (type_of% zI_41) ∧ (type_of% fI_41_0) ∧ (type_of% fI_41_1) ∧ (type_of% fI_41_2) ∧ (type_of% fI_41_3) ∧ (type_of% bI_41) ∧ (type_of% tI_64) ∧ (type_of% zI_64) ∧ (type_of% fI_64_0) ∧ (type_of% fI_64_1) ∧ (type_of% bI_64) := ⟨tI_2, zI_2, Go.Proofs.Try.underlying2, tI_3, zI_3, Go.Proofs.Try.underlying3, tI_5, zI_5, Go.Proofs.Try.underlying5, tI_41, zI_41, fI_41_0, fI_41_1, fI_41_2, fI_41_3, bI_41, tI_64, zI_64, fI_64_0, fI_64_1, bI_64⟩
theorem c_l1Var (n : Int) (st : Store) : ACalls prog 148 [.int .i64 n] st (fun r st' => r = (vr n).av ∧ st' = st) := by
  refine ACalls.done ?_
  refine acalls_fit [1000000] func148 ntmps148 rfl rfl (by kernel_rfl) (by decide +kernel) (by show 1 ≤ _; decide +kernel) ?_
  intro _
  simp -implicitDefEqProofs only [setCells, evb0, evb1, evb2, evb3, evb4, evb5, evb6, evb7, evb8, evb9, ↓evZ2, ↓evZ3, ↓Int.cast_ofNat_Int, implies_true, ne_eq, or_false, false_or, or_self, gt_iff_lt, isMut, aFn, List.contains, List.elem, aBox, aField, aLoad, sub, aNil, aPick, aExt, aFld, gd, noJunk, plainOp, aBuildSlice, aBuild, aFill, aParts, seqParts, fitAll, List.range', ↓reduceIte, reduceCtorEq, Nat.reduceEqDiff, Nat.reduceAdd, Nat.reduceLeDiff, Nat.reduceMul, Nat.reduceLT, Nat.reduceBEq, Int.reduceEq, tf_D2_148]
  intro b hb
  exact ⟨by simp only [vr, Tm.av_mk, soft_agg, soft_tup, soft_int, soft_bool, soft_str, soft_slice, soft_fslice, soft_ptr, soft_pptr, soft_map, soft_mslice, Tm.soft, List.map_cons, List.map_nil], (Drops.refl _).upd hb⟩
theorem tf_D2_146 : (type_of% tI_2) ∧ (type_of% zI_2) ∧ (type_of% Go.Proofs.Try.underlying2) ∧ (type_of% tI_3) ∧ (type_of% zI_3) ∧ (type_of% Go.Proofs.Try.underlying3) ∧ (type_of% tI_5) ∧ (type_of% zI_5) ∧ (type_of% Go.Proofs.Try.underlying5) ∧ (type_of% tI_41) ∧ (type_of% zI_41) ∧ (type_of% fI_41_0) ∧ (type_of% fI_41_1) ∧ (type_of% fI_41_2) ∧ (type_of% fI_41_3) ∧ (type_of% bI_41) ∧ (type_of% tI_64) ∧ (type_of% zI_64) ∧ (type_of% fI_64_0) ∧ (type_of% fI_64_1) ∧ (type_of% bI_64) := ⟨tI_2, zI_2, Go.Proofs.Try.underlying2, tI_3, zI_3, Go.Proofs.Try.underlying3, tI_5, zI_5, Go.Proofs.Try.underlying5, tI_41, zI_41, fI_41_0, fI_41_1, fI_41_2, fI_41_3, bI_41, tI_64, zI_64, fI_64_0, fI_64_1, bI_64⟩
theorem c_l1Int (n : Int) (st : Store) : ACalls prog 146 [.int .i64 n] st (fun r st' => r = (Tm.mk 2 n ⟨#[]⟩ []).av ∧ st' = st) := by
  refine ACalls.done ?_
  refine acalls_fit [1000000] func146 ntmps146 rfl rfl (by kernel_rfl) (by decide +kernel) (by show 1 ≤ _; decide +kernel) ?_
  intro _
  simp -implicitDefEqProofs only [setCells, evb0, evb1, evb2, evb3, evb4, evb5, evb6, evb7, evb8, evb9, ↓evZ2, ↓evZ3, ↓Int.cast_ofNat_Int, implies_true, ne_eq, or_false, false_or, or_self, gt_iff_lt, isMut, aFn, List.contains, List.elem, aBox, aField, aLoad, sub, aNil, aPick, aExt, aFld, gd, noJunk, plainOp, aBuildSlice, aBuild, aFill, aParts, seqParts, fitAll, List.range', ↓reduceIte, reduceCtorEq, Nat.reduceEqDiff, Nat.reduceAdd, Nat.reduceLeDiff, Nat.reduceMul, Nat.reduceLT, Nat.reduceBEq, Int.reduceEq, tf_D2_146]
  intro b hb
  exact ⟨by simp only [vr, Tm.av_mk, soft_agg, soft_tup, soft_int, soft_bool, soft_str, soft_slice, soft_fslice, soft_ptr, soft_pptr, soft_map, soft_mslice, Tm.soft, List.map_cons, List.map_nil], (Drops.refl _).upd hb⟩
theorem tf_D2_147 : (type_of% tI_2) ∧ (type_of% zI_2) ∧ (type_of% Go.Proofs.Try.underlying2) ∧ (type_of% tI_3) ∧ (type_of% zI_3) ∧ (type_of% Go.Proofs.Try.underlying3) ∧ (type_of% tI_4) ∧ (type_of% zI_4) ∧ (type_of% Go.Proofs.Try.underlying4) ∧ (type_of% tI_6) ∧ (type_of% zI_6) ∧ (type_of% Go.Proofs.Try.underlying6) ∧ (type_of% tI_7) ∧ (type_of% zI_7) ∧ (type_of% fI_7_0) ∧ (type_of% fI_7_1) ∧ (type_of% fI_7_2) ∧ (type_of% fI_7_3) ∧ (type_of% bI_7) ∧ (type_of% tI_8) ∧ (type_of% zI_8) ∧ (type_of% fI_8_0) ∧ (type_of% fI_8_1) ∧ (type_of% fI_8_2) ∧ (type_of% fI_8_3) ∧ (type_of% bI_8) ∧ (type_of% tI_9) ∧ (type_of% zI_9) ∧ (type_of% Go.Proofs.Try.underlying9) ∧ (type_of% tI_10) ∧ (type_of% zI_10) ∧ (type_of% Go.Proofs.Try.underlying10) ∧ (type_of% tI_27) ∧ (type_of% zI_27) ∧ (type_of% eI_27) ∧ (type_of% eB_27) ∧ (type_of% eZ_27) ∧ (type_of% Go.Proofs.Try.underlying27) ∧ (type_of% tI_41) ∧ (type_of% zI_41) ∧ (type_of% fI_41_0) ∧ (type_of% fI_41_1) ∧ (type_of% fI_41_2) ∧ (type_of% fI_41_3) ∧ (type_of% bI_41) ∧ (type_of% tI_64) ∧ (type_of% zI_64) ∧ (type_of% fI_64_0) ∧ (type_of% fI_64_1) ∧ (type_of% bI_64) ∧ (type_of% tI_170) ∧ (type_of% zI_170) ∧ (type_of% fI_170_0) ∧ (type_of% fI_170_1) ∧ (type_of% fI_170_2) ∧ (type_of% fI_170_3) ∧ (type_of% fI_170_4) ∧ (type_of% fI_170_5) ∧ (type_of% bI_170) := ⟨tI_2, zI_2, Go.Proofs.Try.underlying2, tI_3, zI_3, Go.Proofs.Try.underlying3, tI_4, zI_4, Go.Proofs.Try.underlying4, tI_6, zI_6, Go.Proofs.Try.underlying6, tI_7, zI_7, fI_7_0, fI_7_1, fI_7_2, fI_7_3, bI_7, tI_8, zI_8, fI_8_0, fI_8_1, fI_8_2, fI_8_3, bI_8, tI_9, zI_9, Go.Proofs.Try.underlying9, tI_10, zI_10, Go.Proofs.Try.underlying10, tI_27, zI_27, eI_27, eB_27, eZ_27, Go.Proofs.Try.underlying27, tI_41, zI_41, fI_41_0, fI_41_1, fI_41_2, fI_41_3, bI_41, tI_64, zI_64, fI_64_0, fI_64_1, bI_64, tI_170, zI_170, fI_170_0, fI_170_1, fI_170_2, fI_170_3, fI_170_4, fI_170_5, bI_170⟩
theorem c_l1Struct (s : ByteArray) (l : List Tm) (hl : l.length ≤ 1048576) (st : Store) : ACalls prog 147 [.str s, .slice (l.map Tm.av)] st (fun r st' => r = (Tm.mk 3 0 s l).av ∧ st' = st) := by
  refine ACalls.drop2 (ACalls.fin ?_)
  refine acalls_fit [1000000] func147 ntmps147 rfl rfl (by kernel_rfl) (by decide +kernel) (by show 2 ≤ _; decide +kernel) ?_
  intro _
  simp -implicitDefEqProofs only [setCells, evb0, evb1, evb2, evb3, evb4, evb5, evb6, evb7, evb8, evb9, ↓evZ2, ↓evZ3, ↓Int.cast_ofNat_Int, implies_true, ne_eq, or_false, false_or, or_self, gt_iff_lt, isMut, aFn, List.contains, List.elem, aBox, aField, aLoad, sub, aNil, aPick, aExt, aFld, gd, noJunk, plainOp, aBuildSlice, aBuild, aFill, aParts, seqParts, fitAll, List.range', ↓reduceIte, reduceCtorEq, Nat.reduceEqDiff, Nat.reduceAdd, Nat.reduceLeDiff, Nat.reduceMul, Nat.reduceLT, Nat.reduceBEq, Int.reduceEq, tf_D2_147]
  intro b hb
  change aAppend prog 27 (accS (st.upd b (.cells [.int .i64 0, .int .i64 0, .str ⟨#[]⟩, .fslice []])) 0 []) (accV 4 0 []) (.slice (l.map Tm.av)) _
  refine acc_append eI_27 eB_27 eZ_27 rfl rfl (by intro e he; simp only [List.mem_map] at he; obtain ⟨t, _, rfl⟩ := he; exact ⟨Tm.av_width _, Tm.av_store _⟩) (by simp) (fun h => absurd rfl h) (by simp only [List.length_nil, List.length_map]; omega) (by simp only [List.length_nil, List.length_map]; omega) (fun b' hb' => ?_)
  rw [List.nil_append] at hb' ⊢
  have hne : l.map Tm.av ≠ [] → b ≠ b' := fun h e => by have := hb' h; rw [← e, Store.upd_same] at this; cases this
  have h1 : accS (st.upd b (.cells [.int .i64 0, .int .i64 0, .str ⟨#[]⟩, .fslice []])) b' (l.map Tm.av) b = some (.cells [.int .i64 0, .int .i64 0, .str ⟨#[]⟩, .fslice []]) := by
    by_cases h : l.map Tm.av = []
    · rw [h, accS_nil, Store.upd_same]
    · rw [accS_ne (hne h), Store.upd_same]
  simp -implicitDefEqProofs only [setCells, h1, accV_cells, accV_store, accV_agg, accV_width, accV_junk, evb0, evb1, evb2, evb3, evb4, evb5, evb6, evb7, evb8, evb9, ↓evZ2, ↓evZ3, ↓Int.cast_ofNat_Int, implies_true, ne_eq, or_false, false_or, or_self, gt_iff_lt, isMut, aFn, List.contains, List.elem, aBox, aField, aLoad, sub, aNil, aPick, aExt, aFld, gd, noJunk, plainOp, aBuildSlice, aBuild, aFill, aParts, seqParts, fitAll, List.range', ↓reduceIte, reduceCtorEq, Nat.reduceEqDiff, Nat.reduceAdd, Nat.reduceLeDiff, Nat.reduceMul, Nat.reduceLT, Nat.reduceBEq, Int.reduceEq, tf_D2_147]
  rw [accS_upd hne, Store.upd_upd]
  exact ⟨b', l.map Tm.av, st.upd b _, rfl, fun h => by rw [Store.upd_ne _ _ (Ne.symm (hne h))]; have := hb' h; rwa [Store.upd_ne _ _ (Ne.symm (hne h))] at this, tm_junk _, ⟨4, tm_widths _⟩, by simp only [Tm.av_mk, fin_agg, fin_tup, fin_int, fin_bool, fin_str, fin_slice, fin_fslice, fin_pptr, fin_ptr, fin_func, fin_map, fin_undef, fin_accV, tm_fin, List.map_cons, List.map_nil], (Drops.refl _).upd hb⟩
theorem c_l1StructF (s : ByteArray) (l : List Tm) (hl : l.length ≤ 1048576) (st : Store) : ACalls prog 147 [.str s, .fslice (l.map Tm.av)] st (fun r st' => r = (Tm.mk 3 0 s l).av ∧ st' = st) :=
  ACalls.softArgs (by simp only [softL, AV.soft]; exact c_l1Struct s l hl st)

/-- Without arguments: the list may grow. -/
theorem c_l1Struct0 (s : ByteArray) (st : Store) : ACalls prog 147 [.str s, .fslice []] st (fun r st' => r = .agg [.int .i64 3, .int .i64 0, .str s, .fslice []] ∧ st' = st) := by
  refine ACalls.drop ?_
  refine acalls_fit [1000000] func147 ntmps147 rfl rfl (by kernel_rfl) (by decide +kernel) (by show 2 ≤ _; decide +kernel) ?_
  intro _
  simp -implicitDefEqProofs only [setCells, evb0, evb1, evb2, evb3, evb4, evb5, evb6, evb7, evb8, evb9, ↓evZ2, ↓evZ3, ↓Int.cast_ofNat_Int, implies_true, ne_eq, or_false, false_or, or_self, gt_iff_lt, isMut, aFn, List.contains, List.elem, aBox, aField, aLoad, sub, aNil, aPick, aExt, aFld, gd, noJunk, plainOp, aBuildSlice, aBuild, aFill, aParts, seqParts, fitAll, List.range', ↓reduceIte, reduceCtorEq, Nat.reduceEqDiff, Nat.reduceAdd, Nat.reduceLeDiff, Nat.reduceMul, Nat.reduceLT, Nat.reduceBEq, Int.reduceEq, tf_D2_147]
  intro b hb
  change aAppend prog 27 (accS (st.upd b (.cells [.int .i64 0, .int .i64 0, .str ⟨#[]⟩, .fslice []])) 0 []) (accV 4 0 []) (.fslice ([] : List AV)) _
  refine acc_append eI_27 eB_27 eZ_27 rfl rfl (by simp [appFit]) (by simp) (fun h => absurd rfl h) (by simp) (by simp) (fun b' hb' => ?_)
  simp only [List.append_nil, accV_nil, accS_nil]
  simp -implicitDefEqProofs only [setCells, evb0, evb1, evb2, evb3, evb4, evb5, evb6, evb7, evb8, evb9, ↓evZ2, ↓evZ3, ↓Int.cast_ofNat_Int, implies_true, ne_eq, or_false, false_or, or_self, gt_iff_lt, isMut, aFn, List.contains, List.elem, aBox, aField, aLoad, sub, aNil, aPick, aExt, aFld, gd, noJunk, plainOp, aBuildSlice, aBuild, aFill, aParts, seqParts, fitAll, List.range', ↓reduceIte, reduceCtorEq, Nat.reduceEqDiff, Nat.reduceAdd, Nat.reduceLeDiff, Nat.reduceMul, Nat.reduceLT, Nat.reduceBEq, Int.reduceEq, tf_D2_147]
  exact (Drops.refl _).upd hb

/-- A term that was drawn: its variables are plain, its lists short. -/
abbrev Dn (t : Tm) : Prop := t.cv = true ∧ t.small = true
theorem dn_vr (n : Int) : Dn (vr n) := by
  refine ⟨Tm.cv_mk.2 ⟨fun _ => ⟨rfl, rfl⟩, fun x hx => by cases hx⟩, ?_⟩
  simp [vr, Tm.small, tmsSmall]
theorem dn_mk {k n : Int} {s : ByteArray} {ts : List Tm} (hk : k ≠ 1) (hl : ts.length ≤ 1048576) (h : ∀ x ∈ ts, Dn x) : Dn (.mk k n s ts) := by
  refine ⟨Tm.cv_mk.2 ⟨fun h => absurd h hk, fun x hx => (h x hx).1⟩, ?_⟩
  simp only [Tm.small, tmsSmall_all, Bool.and_eq_true, decide_eq_true_eq, List.all_eq_true]
  exact ⟨hl, fun x hx => (h x hx).2⟩
/-- What a draw of at most m steps leaves: p is where it stood. -/
def Dr (bs : List Bt) (c p m : Nat) (st : Store) (Q : AV → Prop) (r : AV) (st' : Store) : Prop := ∃ p', p ≤ p' ∧ p' ≤ p + m ∧ st' = st.upd c (rdC bs p') ∧ Q r
def DrT (r : AV) : Prop := ∃ t : Tm, Dn t ∧ r = t.av
theorem RdAt.upd {st : Store} {c p : Nat} {bs : List Bt} {b : Nat} {o : AO} (h : RdAt st c bs p) (hb : b ≠ c) : RdAt (st.upd b o) c bs p := by unfold RdAt; rw [Store.upd_ne _ _ (Ne.symm hb)]; exact h
theorem RdAt.new {st : Store} {c p : Nat} {bs : List Bt} : RdAt (st.upd c (rdC bs p)) c bs p := Store.upd_same _ _ _
theorem RdAt.ne {st : Store} {c p : Nat} {bs : List Bt} {b : Nat} (h : RdAt st c bs p) (hb : st b = none) : b ≠ c := by rintro rfl; rw [RdAt, hb] at h; cases h

theorem tf_D2_107 : (type_of% tI_2) ∧ (type_of% zI_2) ∧ (type_of% Go.Proofs.Try.underlying2) ∧ (type_of% tI_3) ∧ (type_of% zI_3) ∧ (type_of% Go.Proofs.Try.underlying3) ∧ (type_of% tI_4) ∧ (type_of% zI_4) ∧ (type_of% Go.Proofs.Try.underlying4) ∧ (type_of% tI_5) ∧ (type_of% zI_5) ∧ (type_of% Go.Proofs.Try.underlying5) ∧ (type_of% tI_6) ∧ (type_of% zI_6) ∧ (type_of% Go.Proofs.Try.underlying6) ∧ (type_of% tI_7) ∧ (type_of% zI_7) ∧ (type_of% fI_7_0) ∧ (type_of% fI_7_1) ∧ (type_of% fI_7_2) ∧ (type_of% fI_7_3) ∧ (type_of% bI_7) ∧ (type_of% tI_8) ∧ (type_of% zI_8) ∧ (type_of% fI_8_0) ∧ (type_of% fI_8_1) ∧ (type_of% fI_8_2) ∧ (type_of% fI_8_3) ∧ (type_of% bI_8) ∧ (type_of% tI_9) ∧ (type_of% zI_9) ∧ (type_of% Go.Proofs.Try.underlying9) ∧ (type_of% tI_10) ∧ (type_of% zI_10) ∧ (type_of% Go.Proofs.Try.underlying10) ∧ (type_of% tI_11) ∧ (type_of% zI_11) ∧ (type_of% Go.Proofs.Try.underlying11) ∧ (type_of% tI_12) ∧ (type_of% zI_12) ∧ (type_of% Go.Proofs.Try.underlying12) ∧ (type_of% tI_13) ∧ (type_of% zI_13) ∧ (type_of% fI_13_0) ∧ (type_of% fI_13_1) ∧ (type_of% bI_13) ∧ (type_of% tI_14) ∧ (type_of% zI_14) ∧ (type_of% fI_14_0) ∧ (type_of% fI_14_1) ∧ (type_of% bI_14) ∧ (type_of% tI_15) ∧ (type_of% zI_15) ∧ (type_of% tI_18) ∧ (type_of% zI_18) ∧ (type_of% fI_18_0) ∧ (type_of% bI_18) ∧ (type_of% tI_19) ∧ (type_of% zI_19) ∧ (type_of% fI_19_0) ∧ (type_of% bI_19) ∧ (type_of% tI_23) ∧ (type_of% zI_23) ∧ (type_of% fI_23_0) ∧ (type_of% bI_23) ∧ (type_of% tI_24) ∧ (type_of% zI_24) ∧ (type_of% fI_24_0) ∧ (type_of% bI_24) ∧ (type_of% tI_27) ∧ (type_of% zI_27) ∧ (type_of% eI_27) ∧ (type_of% eB_27) ∧ (type_of% eZ_27) ∧ (type_of% Go.Proofs.Try.underlying27) ∧ (type_of% tI_31) ∧ (type_of% zI_31) ∧ (type_of% fI_31_0) ∧ (type_of% bI_31) ∧ (type_of% tI_32) ∧ (type_of% zI_32) ∧ (type_of% fI_32_0) ∧ (type_of% bI_32) ∧ (type_of% tI_40) ∧ (type_of% zI_40) ∧ (type_of% fI_40_0) ∧ (type_of% fI_40_1) ∧ (type_of% fI_40_2) ∧ (type_of% fI_40_3) ∧ (type_of% bI_40) ∧ (type_of% tI_41) ∧ (type_of% zI_41) ∧ (type_of% fI_41_0) ∧ (type_of% fI_41_1) ∧ (type_of% fI_41_2) ∧ (type_of% fI_41_3) ∧ (type_of% bI_41) ∧ (type_of% tI_44) ∧ (type_of% zI_44) ∧ (type_of% eI_44) ∧ (type_of% eB_44) ∧ (type_of% eZ_44) ∧ (type_of% Go.Proofs.Try.underlying44) ∧ (type_of% tI_56) ∧ (type_of% zI_56) ∧ (type_of% eI_56) ∧ (type_of% eB_56) ∧ (type_of% eZ_56) ∧ (type_of% Go.Proofs.Try.underlying56) ∧ (type_of% tI_57) ∧ (type_of% zI_57) ∧ (type_of% fI_57_0) ∧ (type_of% fI_57_1) ∧ (type_of% bI_57) ∧ (type_of% tI_60) ∧ (type_of% zI_60) ∧ (type_of% eI_60) ∧ (type_of% eB_60) ∧ (type_of% eZ_60) ∧ (type_of% Go.Proofs.Try.underlying60) ∧ (type_of% tI_62) ∧ (type_of% zI_62) ∧ (type_of% eI_62) ∧ (type_of% eB_62) ∧ (type_of% eZ_62) ∧ (type_of% Go.Proofs.Try.underlying62) ∧ (type_of% tI_63) ∧ (type_of% zI_63) ∧ (type_of% fI_63_0) ∧ (type_of% fI_63_1) ∧ (type_of% bI_63) ∧ (type_of% tI_64) ∧ (type_of% zI_64) ∧ (type_of% fI_64_0) ∧ (type_of% fI_64_1) ∧ (type_of% bI_64) ∧ (type_of% tI_91) ∧ (type_of% zI_91) ∧ (type_of% fI_91_0) ∧ (type_of% fI_91_1) ∧ (type_of% fI_91_2) ∧ (type_of% fI_91_3) ∧ (type_of% bI_91) ∧ (type_of% tI_93) ∧ (type_of% zI_93) ∧ (type_of% eI_93) ∧ (type_of% eB_93) ∧ (type_of% eZ_93) ∧ (type_of% Go.Proofs.Try.underlying93) ∧ (type_of% tI_102) ∧ (type_of% zI_102) ∧ (type_of% tI_111) ∧ (type_of% zI_111) ∧ (type_of% tI_120) ∧ (type_of% zI_120) ∧ (type_of% fI_120_0) ∧ (type_of% fI_120_1) ∧ (type_of% fI_120_2) ∧ (type_of% fI_120_3) ∧ (type_of% fI_120_4) ∧ (type_of% fI_120_5) ∧ (type_of% fI_120_6) ∧ (type_of% bI_120) ∧ (type_of% tI_140) ∧ (type_of% zI_140) ∧ (type_of% tI_147) ∧ (type_of% zI_147) ∧ (type_of% Go.Proofs.Try.underlying147) ∧ (type_of% tI_182) ∧ (type_of% zI_182) ∧ (type_of% eI_182) ∧ (type_of% eB_182) ∧ (type_of% eZ_182) ∧ (type_of% Go.Proofs.Try.underlying182) := ⟨tI_2, zI_2, Go.Proofs.Try.underlying2, tI_3, zI_3, Go.Proofs.Try.underlying3, tI_4, zI_4, Go.Proofs.Try.underlying4, tI_5, zI_5, Go.Proofs.Try.underlying5, tI_6, zI_6, Go.Proofs.Try.underlying6, tI_7, zI_7, fI_7_0, fI_7_1, fI_7_2, fI_7_3, bI_7, tI_8, zI_8, fI_8_0, fI_8_1, fI_8_2, fI_8_3, bI_8, tI_9, zI_9, Go.Proofs.Try.underlying9, tI_10, zI_10, Go.Proofs.Try.underlying10, tI_11, zI_11, Go.Proofs.Try.underlying11, tI_12, zI_12, Go.Proofs.Try.underlying12, tI_13, zI_13, fI_13_0, fI_13_1, bI_13, tI_14, zI_14, fI_14_0, fI_14_1, bI_14, tI_15, zI_15, tI_18, zI_18, fI_18_0, bI_18, tI_19, zI_19, fI_19_0, bI_19, tI_23, zI_23, fI_23_0, bI_23, tI_24, zI_24, fI_24_0, bI_24, tI_27, zI_27, eI_27, eB_27, eZ_27, Go.Proofs.Try.underlying27, tI_31, zI_31, fI_31_0, bI_31, tI_32, zI_32, fI_32_0, bI_32, tI_40, zI_40, fI_40_0, fI_40_1, fI_40_2, fI_40_3, bI_40, tI_41, zI_41, fI_41_0, fI_41_1, fI_41_2, fI_41_3, bI_41, tI_44, zI_44, eI_44, eB_44, eZ_44, Go.Proofs.Try.underlying44, tI_56, zI_56, eI_56, eB_56, eZ_56, Go.Proofs.Try.underlying56, tI_57, zI_57, fI_57_0, fI_57_1, bI_57, tI_60, zI_60, eI_60, eB_60, eZ_60, Go.Proofs.Try.underlying60, tI_62, zI_62, eI_62, eB_62, eZ_62, Go.Proofs.Try.underlying62, tI_63, zI_63, fI_63_0, fI_63_1, bI_63, tI_64, zI_64, fI_64_0, fI_64_1, bI_64, tI_91, zI_91, fI_91_0, fI_91_1, fI_91_2, fI_91_3, bI_91, tI_93, zI_93, eI_93, eB_93, eZ_93, Go.Proofs.Try.underlying93, tI_102, zI_102, tI_111, zI_111, tI_120, zI_120, fI_120_0, fI_120_1, fI_120_2, fI_120_3, fI_120_4, fI_120_5, fI_120_6, bI_120, tI_140, zI_140, tI_147, zI_147, Go.Proofs.Try.underlying147, tI_182, zI_182, eI_182, eB_182, eZ_182, Go.Proofs.Try.underlying182⟩
theorem c_l1Draw (bs : List Bt) (c : Nat) : ∀ (d p : Nat) (st : Store), d ≤ 10 → p + 4 ^ (d + 2) ≤ 1099511627776 → RdAt st c bs p → ACalls prog 107 [.ptr c 0, .int .i64 (d : Int)] st (Dr bs c p (4 ^ (d + 2)) st DrT)
  | d, p, st, hd, hp, hR => by
    have IH := fun (d' : Nat) (hlt : d' < d) p st => c_l1Draw bs c d' p st
    refine ACalls.dropS (ACalls.fin ?_)
    refine acalls_fit [1000000, 5] func107 ntmps107 rfl rfl (by kernel_rfl) (by decide +kernel) (by show 2 ≤ _; decide +kernel) ?_
    intro _
    simp -implicitDefEqProofs only [setCells, evb0, evb1, evb2, evb3, evb4, evb5, evb6, evb7, evb8, evb9, ↓evZ2, ↓evZ3, ↓Int.cast_ofNat_Int, implies_true, ne_eq, or_false, false_or, or_self, gt_iff_lt, isMut, aFn, List.contains, List.elem, aBox, aField, aLoad, sub, aNil, aPick, aExt, aFld, gd, noJunk, plainOp, aBuildSlice, aBuild, aFill, aParts, seqParts, fitAll, List.range', ↓reduceIte, reduceCtorEq, Nat.reduceEqDiff, Nat.reduceAdd, Nat.reduceLeDiff, Nat.reduceMul, Nat.reduceLT, Nat.reduceBEq, Int.reduceEq, tf_D2_107]
    intro b4 h4
    have h4c := hR.ne h4
    have hR' := fun o => hR.upd (o := o) h4c
    have hpow : 64 ≤ 4 ^ (d + 2) ∨ d = 0 := by
      cases d with
      | zero => exact .inr rfl
      | succ d => left; have : 4 ^ (d + 1 + 2) = 64 * 4 ^ d := by rw [show d + 1 + 2 = d + 3 by omega, Nat.pow_add]; omega
                  have := Nat.one_le_two_pow (n := d); have : 1 ≤ 4 ^ d := Nat.one_le_pow _ _ (by omega); omega
    have hpow16 : 16 ≤ 4 ^ (d + 2) := by rcases hpow with h | rfl <;> omega
    have hend : ∀ (o o' : AO) (q : Nat) (t : Tm), p ≤ q → q ≤ p + 4 ^ (d + 2) → Dn t → ∃ b l s0, ((st.upd b4 o).upd c (rdC bs q)).upd b4 o' = accS s0 b l ∧ (l ≠ [] → s0 b = none) ∧ (∀ e ∈ l, e.isJunk = false) ∧ Even l ∧ ∃ s2, Drops s0 s2 ∧ Dr bs c p (4 ^ (d + 2)) st DrT (AV.fin b l t.av) s2 := fun o o' q t h1 h2 h3 => by
      refine ⟨0, [], _, rfl, by simp, by simp, ⟨4, by simp⟩, st.upd c (rdC bs q), ?_, q, h1, h2, rfl, t, h3, Tm.fin0 t 0⟩
      intro x
      by_cases e4 : x = b4 <;> by_cases ec : x = c <;> simp_all [Store.upd]
    refine opsG_split (fun h => ?_) (fun h => ?_)
    case refine_2 =>
      simp -implicitDefEqProofs only [h, setCells, evb0, evb1, evb2, evb3, evb4, evb5, evb6, evb7, evb8, evb9, ↓evZ2, ↓evZ3, ↓Int.cast_ofNat_Int, implies_true, ne_eq, or_false, false_or, or_self, gt_iff_lt, isMut, aFn, List.contains, List.elem, aBox, aField, aLoad, sub, aNil, aPick, aExt, aFld, gd, noJunk, plainOp, aBuildSlice, aBuild, aFill, aParts, seqParts, fitAll, List.range', ↓reduceIte, reduceCtorEq, Nat.reduceEqDiff, Nat.reduceAdd, Nat.reduceLeDiff, Nat.reduceMul, Nat.reduceLT, Nat.reduceBEq, Int.reduceEq, tf_D2_107]
      have hRq := hR' (.cells [.int .i64 0, .int .i64 0, .str ⟨#[]⟩, .fslice []])
      have hq : p + 1 ≤ 1099511627776 := by omega
      have := h4c.symm
      refine (c_pick bs c (p) (by omega) 4 (by omega) (by omega) _ hRq).mono ?_
      rintro _ _ ⟨k, hk, rfl, rfl⟩
      try rw [Store.upd_upd]
      simp -implicitDefEqProofs only [setCells, h4c, h4c.symm, evb0, evb1, evb2, evb3, evb4, evb5, evb6, evb7, evb8, evb9, ↓evZ2, ↓evZ3, ↓Int.cast_ofNat_Int, implies_true, ne_eq, or_false, false_or, or_self, gt_iff_lt, isMut, aFn, List.contains, List.elem, aBox, aField, aLoad, sub, aNil, aPick, aExt, aFld, gd, noJunk, plainOp, aBuildSlice, aBuild, aFill, aParts, seqParts, fitAll, List.range', ↓reduceIte, reduceCtorEq, Nat.reduceEqDiff, Nat.reduceAdd, Nat.reduceLeDiff, Nat.reduceMul, Nat.reduceLT, Nat.reduceBEq, Int.reduceEq, tf_D2_107]
      refine cond_split (fun h1 => ?_) (fun h1 => ?_)
      · simp -implicitDefEqProofs only [setCells, h4c, h4c.symm, evb0, evb1, evb2, evb3, evb4, evb5, evb6, evb7, evb8, evb9, ↓evZ2, ↓evZ3, ↓Int.cast_ofNat_Int, implies_true, ne_eq, or_false, false_or, or_self, gt_iff_lt, isMut, aFn, List.contains, List.elem, aBox, aField, aLoad, sub, aNil, aPick, aExt, aFld, gd, noJunk, plainOp, aBuildSlice, aBuild, aFill, aParts, seqParts, fitAll, List.range', ↓reduceIte, reduceCtorEq, Nat.reduceEqDiff, Nat.reduceAdd, Nat.reduceLeDiff, Nat.reduceMul, Nat.reduceLT, Nat.reduceBEq, Int.reduceEq, tf_D2_107]
        refine (c_pick bs c (p + 1) (by omega) 4 (by omega) (by omega) _ RdAt.new).mono ?_
        rintro _ _ ⟨k2, hk2, rfl, rfl⟩
        rw [Store.upd_upd]
        simp -implicitDefEqProofs only [setCells, h4c, h4c.symm, evb0, evb1, evb2, evb3, evb4, evb5, evb6, evb7, evb8, evb9, ↓evZ2, ↓evZ3, ↓Int.cast_ofNat_Int, implies_true, ne_eq, or_false, false_or, or_self, gt_iff_lt, isMut, aFn, List.contains, List.elem, aBox, aField, aLoad, sub, aNil, aPick, aExt, aFld, gd, noJunk, plainOp, aBuildSlice, aBuild, aFill, aParts, seqParts, fitAll, List.range', ↓reduceIte, reduceCtorEq, Nat.reduceEqDiff, Nat.reduceAdd, Nat.reduceLeDiff, Nat.reduceMul, Nat.reduceLT, Nat.reduceBEq, Int.reduceEq, tf_D2_107]
        refine (c_l1Var (k2 : Int) _).to ?_
        simp -implicitDefEqProofs only [Tm.av_cells, Tm.av_store, Tm.av_agg, take_all (Tm.av_cells _), agg_cells (Tm.av_agg _), setCells, h4c, h4c.symm, evb0, evb1, evb2, evb3, evb4, evb5, evb6, evb7, evb8, evb9, ↓evZ2, ↓evZ3, ↓Int.cast_ofNat_Int, implies_true, ne_eq, or_false, false_or, or_self, gt_iff_lt, isMut, aFn, List.contains, List.elem, aBox, aField, aLoad, sub, aNil, aPick, aExt, aFld, gd, noJunk, plainOp, aBuildSlice, aBuild, aFill, aParts, seqParts, fitAll, List.range', ↓reduceIte, reduceCtorEq, Nat.reduceEqDiff, Nat.reduceAdd, Nat.reduceLeDiff, Nat.reduceMul, Nat.reduceLT, Nat.reduceBEq, Int.reduceEq, tf_D2_107]
        exact hend _ _ _ (vr k2) (by omega) (by omega) (dn_vr _)
      simp -implicitDefEqProofs only [setCells, h4c, h4c.symm, evb0, evb1, evb2, evb3, evb4, evb5, evb6, evb7, evb8, evb9, ↓evZ2, ↓evZ3, ↓Int.cast_ofNat_Int, implies_true, ne_eq, or_false, false_or, or_self, gt_iff_lt, isMut, aFn, List.contains, List.elem, aBox, aField, aLoad, sub, aNil, aPick, aExt, aFld, gd, noJunk, plainOp, aBuildSlice, aBuild, aFill, aParts, seqParts, fitAll, List.range', ↓reduceIte, reduceCtorEq, Nat.reduceEqDiff, Nat.reduceAdd, Nat.reduceLeDiff, Nat.reduceMul, Nat.reduceLT, Nat.reduceBEq, Int.reduceEq, tf_D2_107]
      refine cond_split (fun h2 => ?_) (fun h2 => ?_)
      · simp -implicitDefEqProofs only [setCells, h4c, h4c.symm, evb0, evb1, evb2, evb3, evb4, evb5, evb6, evb7, evb8, evb9, ↓evZ2, ↓evZ3, ↓Int.cast_ofNat_Int, implies_true, ne_eq, or_false, false_or, or_self, gt_iff_lt, isMut, aFn, List.contains, List.elem, aBox, aField, aLoad, sub, aNil, aPick, aExt, aFld, gd, noJunk, plainOp, aBuildSlice, aBuild, aFill, aParts, seqParts, fitAll, List.range', ↓reduceIte, reduceCtorEq, Nat.reduceEqDiff, Nat.reduceAdd, Nat.reduceLeDiff, Nat.reduceMul, Nat.reduceLT, Nat.reduceBEq, Int.reduceEq, tf_D2_107]
        refine (c_numF [0, 1, 7, -3, 999, -999] (by simp) (by simp) bs c (p + 1) (by omega) _ RdAt.new).mono ?_
        rintro _ _ ⟨x, hx, rfl, rfl⟩
        rw [Store.upd_upd]
        simp -implicitDefEqProofs only [setCells, h4c, h4c.symm, evb0, evb1, evb2, evb3, evb4, evb5, evb6, evb7, evb8, evb9, ↓evZ2, ↓evZ3, ↓Int.cast_ofNat_Int, implies_true, ne_eq, or_false, false_or, or_self, gt_iff_lt, isMut, aFn, List.contains, List.elem, aBox, aField, aLoad, sub, aNil, aPick, aExt, aFld, gd, noJunk, plainOp, aBuildSlice, aBuild, aFill, aParts, seqParts, fitAll, List.range', ↓reduceIte, reduceCtorEq, Nat.reduceEqDiff, Nat.reduceAdd, Nat.reduceLeDiff, Nat.reduceMul, Nat.reduceLT, Nat.reduceBEq, Int.reduceEq, tf_D2_107]
        refine (c_l1Int x _).to ?_
        simp -implicitDefEqProofs only [Tm.av_cells, Tm.av_store, Tm.av_agg, take_all (Tm.av_cells _), agg_cells (Tm.av_agg _), setCells, h4c, h4c.symm, evb0, evb1, evb2, evb3, evb4, evb5, evb6, evb7, evb8, evb9, ↓evZ2, ↓evZ3, ↓Int.cast_ofNat_Int, implies_true, ne_eq, or_false, false_or, or_self, gt_iff_lt, isMut, aFn, List.contains, List.elem, aBox, aField, aLoad, sub, aNil, aPick, aExt, aFld, gd, noJunk, plainOp, aBuildSlice, aBuild, aFill, aParts, seqParts, fitAll, List.range', ↓reduceIte, reduceCtorEq, Nat.reduceEqDiff, Nat.reduceAdd, Nat.reduceLeDiff, Nat.reduceMul, Nat.reduceLT, Nat.reduceBEq, Int.reduceEq, tf_D2_107]
        exact hend _ _ _ (.mk 2 x ⟨#[]⟩ []) (by omega) (by omega) (dn_mk (by omega) (by simp) (by simp))
      · simp -implicitDefEqProofs only [setCells, h4c, h4c.symm, evb0, evb1, evb2, evb3, evb4, evb5, evb6, evb7, evb8, evb9, ↓evZ2, ↓evZ3, ↓Int.cast_ofNat_Int, implies_true, ne_eq, or_false, false_or, or_self, gt_iff_lt, isMut, aFn, List.contains, List.elem, aBox, aField, aLoad, sub, aNil, aPick, aExt, aFld, gd, noJunk, plainOp, aBuildSlice, aBuild, aFill, aParts, seqParts, fitAll, List.range', ↓reduceIte, reduceCtorEq, Nat.reduceEqDiff, Nat.reduceAdd, Nat.reduceLeDiff, Nat.reduceMul, Nat.reduceLT, Nat.reduceBEq, Int.reduceEq, tf_D2_107]
        refine (c_ofF [⟨#[97]⟩, ⟨#[98]⟩, ⟨#[110, 105, 108]⟩, ⟨#[91, 93]⟩, ⟨#[102, 111, 111]⟩, ⟨#[43]⟩] (by simp) (by simp) bs c (p + 1) (by omega) _ RdAt.new).mono ?_
        rintro _ _ ⟨x, hx, rfl, rfl⟩
        rw [Store.upd_upd]
        simp -implicitDefEqProofs only [setCells, h4c, h4c.symm, evb0, evb1, evb2, evb3, evb4, evb5, evb6, evb7, evb8, evb9, ↓evZ2, ↓evZ3, ↓Int.cast_ofNat_Int, implies_true, ne_eq, or_false, false_or, or_self, gt_iff_lt, isMut, aFn, List.contains, List.elem, aBox, aField, aLoad, sub, aNil, aPick, aExt, aFld, gd, noJunk, plainOp, aBuildSlice, aBuild, aFill, aParts, seqParts, fitAll, List.range', ↓reduceIte, reduceCtorEq, Nat.reduceEqDiff, Nat.reduceAdd, Nat.reduceLeDiff, Nat.reduceMul, Nat.reduceLT, Nat.reduceBEq, Int.reduceEq, tf_D2_107]
        refine (c_l1StructF x [] (by simp) _).to ?_
        simp -implicitDefEqProofs only [Tm.av_cells, Tm.av_store, Tm.av_agg, take_all (Tm.av_cells _), agg_cells (Tm.av_agg _), setCells, h4c, h4c.symm, evb0, evb1, evb2, evb3, evb4, evb5, evb6, evb7, evb8, evb9, ↓evZ2, ↓evZ3, ↓Int.cast_ofNat_Int, implies_true, ne_eq, or_false, false_or, or_self, gt_iff_lt, isMut, aFn, List.contains, List.elem, aBox, aField, aLoad, sub, aNil, aPick, aExt, aFld, gd, noJunk, plainOp, aBuildSlice, aBuild, aFill, aParts, seqParts, fitAll, List.range', ↓reduceIte, reduceCtorEq, Nat.reduceEqDiff, Nat.reduceAdd, Nat.reduceLeDiff, Nat.reduceMul, Nat.reduceLT, Nat.reduceBEq, Int.reduceEq, tf_D2_107]
        exact hend _ _ _ (.mk 3 0 x []) (by omega) (by omega) (dn_mk (by omega) (by simp) (by simp))
    simp -implicitDefEqProofs only [h, setCells, h4c, h4c.symm, evb0, evb1, evb2, evb3, evb4, evb5, evb6, evb7, evb8, evb9, ↓evZ2, ↓evZ3, ↓Int.cast_ofNat_Int, implies_true, ne_eq, or_false, false_or, or_self, gt_iff_lt, isMut, aFn, List.contains, List.elem, aBox, aField, aLoad, sub, aNil, aPick, aExt, aFld, gd, noJunk, plainOp, aBuildSlice, aBuild, aFill, aParts, seqParts, fitAll, List.range', ↓reduceIte, reduceCtorEq, Nat.reduceEqDiff, Nat.reduceAdd, Nat.reduceLeDiff, Nat.reduceMul, Nat.reduceLT, Nat.reduceBEq, Int.reduceEq, tf_D2_107]
    have hd2 : 2 ≤ d := by simp at h; omega
    have hwx : ∀ z : Int, z = (d : Int) → IntKind.i64.wrap (z - 1) = z - 1 := fun z hz => wrap64 (by omega) (by omega)
    obtain ⟨d', rfl⟩ : ∃ d', d = d' + 1 := ⟨d - 1, by omega⟩
    have hpd : 4 ^ (d' + 1 + 2) = 4 * 4 ^ (d' + 2) := by rw [show d' + 1 + 2 = d' + 2 + 1 by omega, Nat.pow_succ]; omega
    have hp4 : 4 ≤ 4 ^ (d' + 2) := by have : 1 ≤ 4 ^ d' := Nat.one_le_pow _ _ (by omega); rw [Nat.pow_add]; omega
    have hwd : IntKind.i64.wrap (((d' + 1 : Nat) : Int) - 1) = (d' : Int) := by rw [wrap64 (by omega) (by omega)]; omega
    have hwd' : IntKind.i64.wrap ((d' : Int) + 1 - 1) = (d' : Int) := by rw [wrap64 (by omega) (by omega)]; omega
    have IHd := fun p st => IH d' (Nat.lt_succ_self _) p st
    generalize hM : 4 ^ (d' + 2) = M at *
    rw [hpd] at hp hpow16
    refine (c_pick bs c p (by omega) 4 (by omega) (by omega) _ (hR' _)).mono ?_
    rintro _ _ ⟨k, hk, rfl, rfl⟩
    simp -implicitDefEqProofs only [setCells, h4c, h4c.symm, hwd', hwd, evb0, evb1, evb2, evb3, evb4, evb5, evb6, evb7, evb8, evb9, ↓evZ2, ↓evZ3, ↓Int.cast_ofNat_Int, implies_true, ne_eq, or_false, false_or, or_self, gt_iff_lt, isMut, aFn, List.contains, List.elem, aBox, aField, aLoad, sub, aNil, aPick, aExt, aFld, gd, noJunk, plainOp, aBuildSlice, aBuild, aFill, aParts, seqParts, fitAll, List.range', ↓reduceIte, reduceCtorEq, Nat.reduceEqDiff, Nat.reduceAdd, Nat.reduceLeDiff, Nat.reduceMul, Nat.reduceLT, Nat.reduceBEq, Int.reduceEq, tf_D2_107]
    refine cond_split (fun h1 => ?_) (fun h1 => ?_)
    · have hRq : RdAt ((st.upd b4 (.cells [.int .i64 0, .int .i64 0, .str ⟨#[]⟩, .fslice []])).upd c (rdC bs (p + 1))) c bs (p + 1) := RdAt.new
      simp -implicitDefEqProofs only [setCells, h4c, h4c.symm, hwd', hwd, evb0, evb1, evb2, evb3, evb4, evb5, evb6, evb7, evb8, evb9, ↓evZ2, ↓evZ3, ↓Int.cast_ofNat_Int, implies_true, ne_eq, or_false, false_or, or_self, gt_iff_lt, isMut, aFn, List.contains, List.elem, aBox, aField, aLoad, sub, aNil, aPick, aExt, aFld, gd, noJunk, plainOp, aBuildSlice, aBuild, aFill, aParts, seqParts, fitAll, List.range', ↓reduceIte, reduceCtorEq, Nat.reduceEqDiff, Nat.reduceAdd, Nat.reduceLeDiff, Nat.reduceMul, Nat.reduceLT, Nat.reduceBEq, Int.reduceEq, tf_D2_107]
      refine (c_pick bs c (p + 1) (by omega) 4 (by omega) (by omega) _ hRq).mono ?_
      rintro _ _ ⟨k, hk, rfl, rfl⟩
      try rw [Store.upd_upd]
      simp -implicitDefEqProofs only [setCells, h4c, h4c.symm, hwd', hwd, evb0, evb1, evb2, evb3, evb4, evb5, evb6, evb7, evb8, evb9, ↓evZ2, ↓evZ3, ↓Int.cast_ofNat_Int, implies_true, ne_eq, or_false, false_or, or_self, gt_iff_lt, isMut, aFn, List.contains, List.elem, aBox, aField, aLoad, sub, aNil, aPick, aExt, aFld, gd, noJunk, plainOp, aBuildSlice, aBuild, aFill, aParts, seqParts, fitAll, List.range', ↓reduceIte, reduceCtorEq, Nat.reduceEqDiff, Nat.reduceAdd, Nat.reduceLeDiff, Nat.reduceMul, Nat.reduceLT, Nat.reduceBEq, Int.reduceEq, tf_D2_107]
      refine cond_split (fun h1 => ?_) (fun h1 => ?_)
      · simp -implicitDefEqProofs only [setCells, h4c, h4c.symm, hwd', hwd, evb0, evb1, evb2, evb3, evb4, evb5, evb6, evb7, evb8, evb9, ↓evZ2, ↓evZ3, ↓Int.cast_ofNat_Int, implies_true, ne_eq, or_false, false_or, or_self, gt_iff_lt, isMut, aFn, List.contains, List.elem, aBox, aField, aLoad, sub, aNil, aPick, aExt, aFld, gd, noJunk, plainOp, aBuildSlice, aBuild, aFill, aParts, seqParts, fitAll, List.range', ↓reduceIte, reduceCtorEq, Nat.reduceEqDiff, Nat.reduceAdd, Nat.reduceLeDiff, Nat.reduceMul, Nat.reduceLT, Nat.reduceBEq, Int.reduceEq, tf_D2_107]
        refine (c_pick bs c (p + 1 + 1) (by omega) 4 (by omega) (by omega) _ RdAt.new).mono ?_
        rintro _ _ ⟨k2, hk2, rfl, rfl⟩
        rw [Store.upd_upd]
        simp -implicitDefEqProofs only [setCells, h4c, h4c.symm, hwd', hwd, evb0, evb1, evb2, evb3, evb4, evb5, evb6, evb7, evb8, evb9, ↓evZ2, ↓evZ3, ↓Int.cast_ofNat_Int, implies_true, ne_eq, or_false, false_or, or_self, gt_iff_lt, isMut, aFn, List.contains, List.elem, aBox, aField, aLoad, sub, aNil, aPick, aExt, aFld, gd, noJunk, plainOp, aBuildSlice, aBuild, aFill, aParts, seqParts, fitAll, List.range', ↓reduceIte, reduceCtorEq, Nat.reduceEqDiff, Nat.reduceAdd, Nat.reduceLeDiff, Nat.reduceMul, Nat.reduceLT, Nat.reduceBEq, Int.reduceEq, tf_D2_107]
        refine (c_l1Var (k2 : Int) _).to ?_
        simp -implicitDefEqProofs only [Tm.av_cells, Tm.av_store, Tm.av_agg, take_all (Tm.av_cells _), agg_cells (Tm.av_agg _), setCells, h4c, h4c.symm, hwd', hwd, evb0, evb1, evb2, evb3, evb4, evb5, evb6, evb7, evb8, evb9, ↓evZ2, ↓evZ3, ↓Int.cast_ofNat_Int, implies_true, ne_eq, or_false, false_or, or_self, gt_iff_lt, isMut, aFn, List.contains, List.elem, aBox, aField, aLoad, sub, aNil, aPick, aExt, aFld, gd, noJunk, plainOp, aBuildSlice, aBuild, aFill, aParts, seqParts, fitAll, List.range', ↓reduceIte, reduceCtorEq, Nat.reduceEqDiff, Nat.reduceAdd, Nat.reduceLeDiff, Nat.reduceMul, Nat.reduceLT, Nat.reduceBEq, Int.reduceEq, tf_D2_107]
        exact hend _ _ _ (vr k2) (by omega) (by omega) (dn_vr _)
      simp -implicitDefEqProofs only [setCells, h4c, h4c.symm, hwd', hwd, evb0, evb1, evb2, evb3, evb4, evb5, evb6, evb7, evb8, evb9, ↓evZ2, ↓evZ3, ↓Int.cast_ofNat_Int, implies_true, ne_eq, or_false, false_or, or_self, gt_iff_lt, isMut, aFn, List.contains, List.elem, aBox, aField, aLoad, sub, aNil, aPick, aExt, aFld, gd, noJunk, plainOp, aBuildSlice, aBuild, aFill, aParts, seqParts, fitAll, List.range', ↓reduceIte, reduceCtorEq, Nat.reduceEqDiff, Nat.reduceAdd, Nat.reduceLeDiff, Nat.reduceMul, Nat.reduceLT, Nat.reduceBEq, Int.reduceEq, tf_D2_107]
      refine cond_split (fun h2 => ?_) (fun h2 => ?_)
      · simp -implicitDefEqProofs only [setCells, h4c, h4c.symm, hwd', hwd, evb0, evb1, evb2, evb3, evb4, evb5, evb6, evb7, evb8, evb9, ↓evZ2, ↓evZ3, ↓Int.cast_ofNat_Int, implies_true, ne_eq, or_false, false_or, or_self, gt_iff_lt, isMut, aFn, List.contains, List.elem, aBox, aField, aLoad, sub, aNil, aPick, aExt, aFld, gd, noJunk, plainOp, aBuildSlice, aBuild, aFill, aParts, seqParts, fitAll, List.range', ↓reduceIte, reduceCtorEq, Nat.reduceEqDiff, Nat.reduceAdd, Nat.reduceLeDiff, Nat.reduceMul, Nat.reduceLT, Nat.reduceBEq, Int.reduceEq, tf_D2_107]
        refine (c_numF [0, 1, 7, -3, 999, -999] (by simp) (by simp) bs c (p + 1 + 1) (by omega) _ RdAt.new).mono ?_
        rintro _ _ ⟨x, hx, rfl, rfl⟩
        rw [Store.upd_upd]
        simp -implicitDefEqProofs only [setCells, h4c, h4c.symm, hwd', hwd, evb0, evb1, evb2, evb3, evb4, evb5, evb6, evb7, evb8, evb9, ↓evZ2, ↓evZ3, ↓Int.cast_ofNat_Int, implies_true, ne_eq, or_false, false_or, or_self, gt_iff_lt, isMut, aFn, List.contains, List.elem, aBox, aField, aLoad, sub, aNil, aPick, aExt, aFld, gd, noJunk, plainOp, aBuildSlice, aBuild, aFill, aParts, seqParts, fitAll, List.range', ↓reduceIte, reduceCtorEq, Nat.reduceEqDiff, Nat.reduceAdd, Nat.reduceLeDiff, Nat.reduceMul, Nat.reduceLT, Nat.reduceBEq, Int.reduceEq, tf_D2_107]
        refine (c_l1Int x _).to ?_
        simp -implicitDefEqProofs only [Tm.av_cells, Tm.av_store, Tm.av_agg, take_all (Tm.av_cells _), agg_cells (Tm.av_agg _), setCells, h4c, h4c.symm, hwd', hwd, evb0, evb1, evb2, evb3, evb4, evb5, evb6, evb7, evb8, evb9, ↓evZ2, ↓evZ3, ↓Int.cast_ofNat_Int, implies_true, ne_eq, or_false, false_or, or_self, gt_iff_lt, isMut, aFn, List.contains, List.elem, aBox, aField, aLoad, sub, aNil, aPick, aExt, aFld, gd, noJunk, plainOp, aBuildSlice, aBuild, aFill, aParts, seqParts, fitAll, List.range', ↓reduceIte, reduceCtorEq, Nat.reduceEqDiff, Nat.reduceAdd, Nat.reduceLeDiff, Nat.reduceMul, Nat.reduceLT, Nat.reduceBEq, Int.reduceEq, tf_D2_107]
        exact hend _ _ _ (.mk 2 x ⟨#[]⟩ []) (by omega) (by omega) (dn_mk (by omega) (by simp) (by simp))
      · simp -implicitDefEqProofs only [setCells, h4c, h4c.symm, hwd', hwd, evb0, evb1, evb2, evb3, evb4, evb5, evb6, evb7, evb8, evb9, ↓evZ2, ↓evZ3, ↓Int.cast_ofNat_Int, implies_true, ne_eq, or_false, false_or, or_self, gt_iff_lt, isMut, aFn, List.contains, List.elem, aBox, aField, aLoad, sub, aNil, aPick, aExt, aFld, gd, noJunk, plainOp, aBuildSlice, aBuild, aFill, aParts, seqParts, fitAll, List.range', ↓reduceIte, reduceCtorEq, Nat.reduceEqDiff, Nat.reduceAdd, Nat.reduceLeDiff, Nat.reduceMul, Nat.reduceLT, Nat.reduceBEq, Int.reduceEq, tf_D2_107]
        refine (c_ofF [⟨#[97]⟩, ⟨#[98]⟩, ⟨#[110, 105, 108]⟩, ⟨#[91, 93]⟩, ⟨#[102, 111, 111]⟩, ⟨#[43]⟩] (by simp) (by simp) bs c (p + 1 + 1) (by omega) _ RdAt.new).mono ?_
        rintro _ _ ⟨x, hx, rfl, rfl⟩
        rw [Store.upd_upd]
        simp -implicitDefEqProofs only [setCells, h4c, h4c.symm, hwd', hwd, evb0, evb1, evb2, evb3, evb4, evb5, evb6, evb7, evb8, evb9, ↓evZ2, ↓evZ3, ↓Int.cast_ofNat_Int, implies_true, ne_eq, or_false, false_or, or_self, gt_iff_lt, isMut, aFn, List.contains, List.elem, aBox, aField, aLoad, sub, aNil, aPick, aExt, aFld, gd, noJunk, plainOp, aBuildSlice, aBuild, aFill, aParts, seqParts, fitAll, List.range', ↓reduceIte, reduceCtorEq, Nat.reduceEqDiff, Nat.reduceAdd, Nat.reduceLeDiff, Nat.reduceMul, Nat.reduceLT, Nat.reduceBEq, Int.reduceEq, tf_D2_107]
        refine (c_l1StructF x [] (by simp) _).to ?_
        simp -implicitDefEqProofs only [Tm.av_cells, Tm.av_store, Tm.av_agg, take_all (Tm.av_cells _), agg_cells (Tm.av_agg _), setCells, h4c, h4c.symm, hwd', hwd, evb0, evb1, evb2, evb3, evb4, evb5, evb6, evb7, evb8, evb9, ↓evZ2, ↓evZ3, ↓Int.cast_ofNat_Int, implies_true, ne_eq, or_false, false_or, or_self, gt_iff_lt, isMut, aFn, List.contains, List.elem, aBox, aField, aLoad, sub, aNil, aPick, aExt, aFld, gd, noJunk, plainOp, aBuildSlice, aBuild, aFill, aParts, seqParts, fitAll, List.range', ↓reduceIte, reduceCtorEq, Nat.reduceEqDiff, Nat.reduceAdd, Nat.reduceLeDiff, Nat.reduceMul, Nat.reduceLT, Nat.reduceBEq, Int.reduceEq, tf_D2_107]
        exact hend _ _ _ (.mk 3 0 x []) (by omega) (by omega) (dn_mk (by omega) (by simp) (by simp))
    · simp -implicitDefEqProofs only [setCells, h4c, h4c.symm, hwd', hwd, evb0, evb1, evb2, evb3, evb4, evb5, evb6, evb7, evb8, evb9, ↓evZ2, ↓evZ3, ↓Int.cast_ofNat_Int, implies_true, ne_eq, or_false, false_or, or_self, gt_iff_lt, isMut, aFn, List.contains, List.elem, aBox, aField, aLoad, sub, aNil, aPick, aExt, aFld, gd, noJunk, plainOp, aBuildSlice, aBuild, aFill, aParts, seqParts, fitAll, List.range', ↓reduceIte, reduceCtorEq, Nat.reduceEqDiff, Nat.reduceAdd, Nat.reduceLeDiff, Nat.reduceMul, Nat.reduceLT, Nat.reduceBEq, Int.reduceEq, tf_D2_107]
      refine (c_pick bs c (p + 1) (by omega) 3 (by omega) (by omega) _ RdAt.new).mono ?_
      rintro _ _ ⟨k2, hk2, rfl, rfl⟩
      rw [Store.upd_upd]
      simp -implicitDefEqProofs only [setCells, h4c, h4c.symm, hwd', hwd, evb0, evb1, evb2, evb3, evb4, evb5, evb6, evb7, evb8, evb9, ↓evZ2, ↓evZ3, ↓Int.cast_ofNat_Int, implies_true, ne_eq, or_false, false_or, or_self, gt_iff_lt, isMut, aFn, List.contains, List.elem, aBox, aField, aLoad, sub, aNil, aPick, aExt, aFld, gd, noJunk, plainOp, aBuildSlice, aBuild, aFill, aParts, seqParts, fitAll, List.range', ↓reduceIte, reduceCtorEq, Nat.reduceEqDiff, Nat.reduceAdd, Nat.reduceLeDiff, Nat.reduceMul, Nat.reduceLT, Nat.reduceBEq, Int.reduceEq, tf_D2_107]
      refine cond_split (fun h2 => ?_) (fun h2 => ?_)
      · simp -implicitDefEqProofs only [setCells, h4c, h4c.symm, hwd', hwd, evb0, evb1, evb2, evb3, evb4, evb5, evb6, evb7, evb8, evb9, ↓evZ2, ↓evZ3, ↓Int.cast_ofNat_Int, implies_true, ne_eq, or_false, false_or, or_self, gt_iff_lt, isMut, aFn, List.contains, List.elem, aBox, aField, aLoad, sub, aNil, aPick, aExt, aFld, gd, noJunk, plainOp, aBuildSlice, aBuild, aFill, aParts, seqParts, fitAll, List.range', ↓reduceIte, reduceCtorEq, Nat.reduceEqDiff, Nat.reduceAdd, Nat.reduceLeDiff, Nat.reduceMul, Nat.reduceLT, Nat.reduceBEq, Int.reduceEq, tf_D2_107]
        refine (IHd (p + 1 + 1) _ (by omega) (by omega) RdAt.new).mono ?_
        rintro _ _ ⟨p1, hp1, hp1', rfl, t1, ht1, rfl⟩
        rw [Store.upd_upd]
        simp -implicitDefEqProofs only [setCells, h4c, h4c.symm, hwd', hwd, evb0, evb1, evb2, evb3, evb4, evb5, evb6, evb7, evb8, evb9, ↓evZ2, ↓evZ3, ↓Int.cast_ofNat_Int, implies_true, ne_eq, or_false, false_or, or_self, gt_iff_lt, isMut, aFn, List.contains, List.elem, aBox, aField, aLoad, sub, aNil, aPick, aExt, aFld, gd, noJunk, plainOp, aBuildSlice, aBuild, aFill, aParts, seqParts, fitAll, List.range', ↓reduceIte, reduceCtorEq, Nat.reduceEqDiff, Nat.reduceAdd, Nat.reduceLeDiff, Nat.reduceMul, Nat.reduceLT, Nat.reduceBEq, Int.reduceEq, tf_D2_107]
        refine (IHd p1 _ (by omega) (by omega) RdAt.new).mono ?_
        rintro _ _ ⟨p2, hp2, hp2', rfl, t2, ht2, rfl⟩
        rw [Store.upd_upd]
        simp -implicitDefEqProofs only [setCells, h4c, h4c.symm, hwd', hwd, evb0, evb1, evb2, evb3, evb4, evb5, evb6, evb7, evb8, evb9, ↓evZ2, ↓evZ3, ↓Int.cast_ofNat_Int, implies_true, ne_eq, or_false, false_or, or_self, gt_iff_lt, isMut, aFn, List.contains, List.elem, aBox, aField, aLoad, sub, aNil, aPick, aExt, aFld, gd, noJunk, plainOp, aBuildSlice, aBuild, aFill, aParts, seqParts, fitAll, List.range', ↓reduceIte, reduceCtorEq, Nat.reduceEqDiff, Nat.reduceAdd, Nat.reduceLeDiff, Nat.reduceMul, Nat.reduceLT, Nat.reduceBEq, Int.reduceEq, tf_D2_107]
        refine (c_l1StructF ⟨#[46]⟩ [t1, t2] (by simp) _).to ?_
        simp -implicitDefEqProofs only [Tm.av_cells, Tm.av_store, Tm.av_agg, take_all (Tm.av_cells _), agg_cells (Tm.av_agg _), setCells, h4c, h4c.symm, hwd', hwd, evb0, evb1, evb2, evb3, evb4, evb5, evb6, evb7, evb8, evb9, ↓evZ2, ↓evZ3, ↓Int.cast_ofNat_Int, implies_true, ne_eq, or_false, false_or, or_self, gt_iff_lt, isMut, aFn, List.contains, List.elem, aBox, aField, aLoad, sub, aNil, aPick, aExt, aFld, gd, noJunk, plainOp, aBuildSlice, aBuild, aFill, aParts, seqParts, fitAll, List.range', ↓reduceIte, reduceCtorEq, Nat.reduceEqDiff, Nat.reduceAdd, Nat.reduceLeDiff, Nat.reduceMul, Nat.reduceLT, Nat.reduceBEq, Int.reduceEq, tf_D2_107]
        exact hend _ _ _ (.mk 3 0 ⟨#[46]⟩ [t1, t2]) (by omega) (by omega) (dn_mk (by omega) (by simp) (by intro x hx; simp only [List.mem_cons, List.not_mem_nil, or_false] at hx; rcases hx with rfl | rfl <;> assumption))
      · simp -implicitDefEqProofs only [setCells, h4c, h4c.symm, hwd', hwd, evb0, evb1, evb2, evb3, evb4, evb5, evb6, evb7, evb8, evb9, ↓evZ2, ↓evZ3, ↓Int.cast_ofNat_Int, implies_true, ne_eq, or_false, false_or, or_self, gt_iff_lt, isMut, aFn, List.contains, List.elem, aBox, aField, aLoad, sub, aNil, aPick, aExt, aFld, gd, noJunk, plainOp, aBuildSlice, aBuild, aFill, aParts, seqParts, fitAll, List.range', ↓reduceIte, reduceCtorEq, Nat.reduceEqDiff, Nat.reduceAdd, Nat.reduceLeDiff, Nat.reduceMul, Nat.reduceLT, Nat.reduceBEq, Int.reduceEq, tf_D2_107]
        refine (c_ofF [⟨#[102]⟩, ⟨#[103]⟩, ⟨#[115]⟩, ⟨#[43]⟩, ⟨#[61]⟩, ⟨#[105, 115]⟩, ⟨#[102, 111, 111]⟩] (by simp) (by simp) bs c (p + 1 + 1) (by omega) _ RdAt.new).mono ?_
        rintro _ _ ⟨x, _, rfl, rfl⟩
        rw [Store.upd_upd]
        simp -implicitDefEqProofs only [setCells, h4c, h4c.symm, hwd', hwd, evb0, evb1, evb2, evb3, evb4, evb5, evb6, evb7, evb8, evb9, ↓evZ2, ↓evZ3, ↓Int.cast_ofNat_Int, implies_true, ne_eq, or_false, false_or, or_self, gt_iff_lt, isMut, aFn, List.contains, List.elem, aBox, aField, aLoad, sub, aNil, aPick, aExt, aFld, gd, noJunk, plainOp, aBuildSlice, aBuild, aFill, aParts, seqParts, fitAll, List.range', ↓reduceIte, reduceCtorEq, Nat.reduceEqDiff, Nat.reduceAdd, Nat.reduceLeDiff, Nat.reduceMul, Nat.reduceLT, Nat.reduceBEq, Int.reduceEq, tf_D2_107]
        refine (c_l1Struct0 x _).to ?_
        simp -implicitDefEqProofs only [setCells, h4c, h4c.symm, hwd', hwd, evb0, evb1, evb2, evb3, evb4, evb5, evb6, evb7, evb8, evb9, ↓evZ2, ↓evZ3, ↓Int.cast_ofNat_Int, implies_true, ne_eq, or_false, false_or, or_self, gt_iff_lt, isMut, aFn, List.contains, List.elem, aBox, aField, aLoad, sub, aNil, aPick, aExt, aFld, gd, noJunk, plainOp, aBuildSlice, aBuild, aFill, aParts, seqParts, fitAll, List.range', ↓reduceIte, reduceCtorEq, Nat.reduceEqDiff, Nat.reduceAdd, Nat.reduceLeDiff, Nat.reduceMul, Nat.reduceLT, Nat.reduceBEq, Int.reduceEq, tf_D2_107]
        intro b5 h5
        have h54 : b5 ≠ b4 := by rintro rfl; simp [Store.upd, h4c] at h5
        have h5c : b5 ≠ c := by rintro rfl; simp [Store.upd] at h5
        have hn5 : st b5 = none := by rw [Store.upd_ne _ _ h5c, Store.upd_ne _ _ h54] at h5; exact h5
        refine (c_numF [2, 1, 3, 2] (by simp) (by simp) bs c (p + 1 + 1 + 1) (by omega) _ (RdAt.new.upd h5c)).mono ?_
        rintro _ _ ⟨y, hy, rfl, rfl⟩
        obtain ⟨n, rfl, hn⟩ : ∃ n : Nat, y = n ∧ n ≤ 3 := by
          simp only [List.mem_cons, List.not_mem_nil, or_false] at hy
          rcases hy with rfl | rfl | rfl | rfl
          · exact ⟨2, rfl, by omega⟩
          · exact ⟨1, rfl, by omega⟩
          · exact ⟨3, rfl, by omega⟩
          · exact ⟨2, rfl, by omega⟩
        rw [Store.upd_mid h5c, Store.upd_comm _ _ _ h5c]
        have hW4 : ∀ q, ((st.upd b4 (.cells [.int .i64 0, .int .i64 0, .str ⟨#[]⟩, .fslice []])).upd c (rdC bs q)) b4 = some (.cells [.int .i64 0, .int .i64 0, .str ⟨#[]⟩, .fslice []]) := fun q => by rw [Store.upd_ne _ _ h4c, Store.upd_same]
        simp -implicitDefEqProofs only [setCells, h4c, h4c.symm, hwd', hwd, h54, h54.symm, h5c, h5c.symm, evb0, evb1, evb2, evb3, evb4, evb5, evb6, evb7, evb8, evb9, ↓evZ2, ↓evZ3, ↓Int.cast_ofNat_Int, implies_true, ne_eq, or_false, false_or, or_self, gt_iff_lt, isMut, aFn, List.contains, List.elem, aBox, aField, aLoad, sub, aNil, aPick, aExt, aFld, gd, noJunk, plainOp, aBuildSlice, aBuild, aFill, aParts, seqParts, fitAll, List.range', ↓reduceIte, reduceCtorEq, Nat.reduceEqDiff, Nat.reduceAdd, Nat.reduceLeDiff, Nat.reduceMul, Nat.reduceLT, Nat.reduceBEq, Int.reduceEq, tf_D2_107]
        refine arun_whileK (σ := Nat × Nat × List Tm × Nat) [1000000, 5] [0, 1, 4, 5]
          (fun s => (s.2.2.1.map Tm.av ≠ [] → (Store.upd ((st.upd b4 (.cells [.int .i64 0, .int .i64 0, .str ⟨#[]⟩, .fslice []])).upd c (rdC bs s.2.2.2)) b5 (.cells ([.int .i64 3, .int .i64 0, .str x] ++ [accV 4 s.2.1 (s.2.2.1.map Tm.av)]))) s.2.1 = none) ∧ s.2.2.1.length + s.1 ≤ 3 ∧ (∀ t ∈ s.2.2.1, Dn t) ∧ p ≤ s.2.2.2 ∧ s.2.2.2 + s.1 * M ≤ p + 4 * M)
          (fun s => [(6, .int .i64 s.1)]) (fun s => kidS ((st.upd b4 (.cells [.int .i64 0, .int .i64 0, .str ⟨#[]⟩, .fslice []])).upd c (rdC bs s.2.2.2)) b5 s.2.1 [.int .i64 3, .int .i64 0, .str x] (s.2.2.1.map Tm.av)) (fun s => s.1) (by decide +kernel)
          ⟨(n, 0, [], p + 1 + 1 + 1 + 1), ⟨fun h => absurd rfl h, by simpa using hn, by simp, by simp only; omega, ?_⟩, LessL.mk (by simp -implicitDefEqProofs only [setCells, h4c, h4c.symm, hwd', hwd, h54, h54.symm, h5c, h5c.symm, evb0, evb1, evb2, evb3, evb4, evb5, evb6, evb7, evb8, evb9, ↓evZ2, ↓evZ3, ↓Int.cast_ofNat_Int, implies_true, ne_eq, or_false, false_or, or_self, gt_iff_lt, isMut, aFn, List.contains, List.elem, aBox, aField, aLoad, sub, aNil, aPick, aExt, aFld, gd, noJunk, plainOp, aBuildSlice, aBuild, aFill, aParts, seqParts, fitAll, List.range', ↓reduceIte, reduceCtorEq, Nat.reduceEqDiff, Nat.reduceAdd, Nat.reduceLeDiff, Nat.reduceMul, Nat.reduceLT, Nat.reduceBEq, Int.reduceEq, tf_D2_107])⟩ ?_
        · simp only
          have := Nat.mul_le_mul_right M hn
          omega
        rintro ⟨i, b, acc, q⟩ ⟨i1, i2, i3, i4, i5⟩
        simp only at i1 i2 i3 i4 i5
        simp -implicitDefEqProofs only [setCells, h4c, h4c.symm, hwd', hwd, h54, h54.symm, h5c, h5c.symm, evb0, evb1, evb2, evb3, evb4, evb5, evb6, evb7, evb8, evb9, ↓evZ2, ↓evZ3, ↓Int.cast_ofNat_Int, implies_true, ne_eq, or_false, false_or, or_self, gt_iff_lt, isMut, aFn, List.contains, List.elem, aBox, aField, aLoad, sub, aNil, aPick, aExt, aFld, gd, noJunk, plainOp, aBuildSlice, aBuild, aFill, aParts, seqParts, fitAll, List.range', ↓reduceIte, reduceCtorEq, Nat.reduceEqDiff, Nat.reduceAdd, Nat.reduceLeDiff, Nat.reduceMul, Nat.reduceLT, Nat.reduceBEq, Int.reduceEq, tf_D2_107]
        refine cond_split (fun h3 => ?_) (fun h3 => ?_)
        · simp only [decide_eq_true_eq] at h3
          have hbo := kidS_c i1
          have hSc : ((st.upd b4 (.cells [.int .i64 0, .int .i64 0, .str ⟨#[]⟩, .fslice []])).upd c (rdC bs q)) c ≠ none := by rw [Store.upd_same]; simp
          have hRk : RdAt (kidS ((st.upd b4 (.cells [.int .i64 0, .int .i64 0, .str ⟨#[]⟩, .fslice []])).upd c (rdC bs q)) b5 b [.int .i64 3, .int .i64 0, .str x] (acc.map Tm.av)) c bs q := by
            unfold RdAt
            rw [kidS_ne i1 hSc h5c.symm, Store.upd_same]
            rfl
          have hM1 : M ≤ i * M := by have := Nat.mul_le_mul_right M (show 1 ≤ i by omega); omega
          have hMi : (i - 1) * M + M = i * M := by rw [← Nat.succ_mul]; congr 1; omega
          have hwi : IntKind.i64.wrap ((i : Int) - 1) = ((i - 1 : Nat) : Int) := by rw [wrap64 (by omega) (by omega)]; omega
          have hlen' : (acc.map Tm.av).length ≤ 3 := by rw [List.length_map]; omega
          simp -implicitDefEqProofs only [setCells, hwd', hwd, accV_agg, accV_width, accV_junk, accV_store, accV_cells, evb0, evb1, evb2, evb3, evb4, evb5, evb6, evb7, evb8, evb9, ↓evZ2, ↓evZ3, ↓Int.cast_ofNat_Int, implies_true, ne_eq, or_false, false_or, or_self, gt_iff_lt, isMut, aFn, List.contains, List.elem, aBox, aField, aLoad, sub, aNil, aPick, aExt, aFld, gd, noJunk, plainOp, aBuildSlice, aBuild, aFill, aParts, seqParts, fitAll, List.range', ↓reduceIte, reduceCtorEq, Nat.reduceEqDiff, Nat.reduceAdd, Nat.reduceLeDiff, Nat.reduceMul, Nat.reduceLT, Nat.reduceBEq, Int.reduceEq, tf_D2_107]
          refine arun_planX [(0, 1), (1, 1), (2, 1), (3, 1), (4, 1), (5, 0), (6, 1), (7, 0), (8, 1), (9, 2)] [0, 1, 2, 3, 4, 6, 8] (none0'.upd b5 (.cells [.int .i64 3, .int .i64 0, .str x, accV 4 b (acc.map Tm.av)])) mixed (by decide +kernel) (by decide +kernel) (by decide +kernel) rfl (ext_one hbo) ?_
          simp -implicitDefEqProofs only [setCells, hwd', hwd, accV_agg, accV_width, accV_junk, accV_store, accV_cells, evb0, evb1, evb2, evb3, evb4, evb5, evb6, evb7, evb8, evb9, ↓evZ2, ↓evZ3, ↓Int.cast_ofNat_Int, implies_true, ne_eq, or_false, false_or, or_self, gt_iff_lt, isMut, aFn, List.contains, List.elem, aBox, aField, aLoad, sub, aNil, aPick, aExt, aFld, gd, noJunk, plainOp, aBuildSlice, aBuild, aFill, aParts, seqParts, fitAll, List.range', ↓reduceIte, reduceCtorEq, Nat.reduceEqDiff, Nat.reduceAdd, Nat.reduceLeDiff, Nat.reduceMul, Nat.reduceLT, Nat.reduceBEq, Int.reduceEq, tf_D2_107]
          refine (IHd q _ (by omega) (by omega) hRk).mono ?_
          rintro _ _ ⟨q', hq1, hq2, rfl, t, ht, rfl⟩
          obtain ⟨e1, i1'⟩ := kidS_beside (o := rdC bs q') i1 hSc h5c.symm
          rw [Store.upd_upd] at e1 i1'
          rw [e1]
          simp -implicitDefEqProofs only [Tm.av_agg, Tm.av_width, Tm.av_store, Tm.av_junk, setCells, hwd', hwd, accV_agg, accV_width, accV_junk, accV_store, accV_cells, evb0, evb1, evb2, evb3, evb4, evb5, evb6, evb7, evb8, evb9, ↓evZ2, ↓evZ3, ↓Int.cast_ofNat_Int, implies_true, ne_eq, or_false, false_or, or_self, gt_iff_lt, isMut, aFn, List.contains, List.elem, aBox, aField, aLoad, sub, aNil, aPick, aExt, aFld, gd, noJunk, plainOp, aBuildSlice, aBuild, aFill, aParts, seqParts, fitAll, List.range', ↓reduceIte, reduceCtorEq, Nat.reduceEqDiff, Nat.reduceAdd, Nat.reduceLeDiff, Nat.reduceMul, Nat.reduceLT, Nat.reduceBEq, Int.reduceEq, tf_D2_107]
          refine ⟨ext_one (kidS_c i1'), ?_⟩
          refine acc_append eI_27 eB_27 eZ_27 rfl rfl (by intro e he; simp only [List.mem_cons, List.not_mem_nil, or_false] at he; subst he; exact ⟨Tm.av_width _, Tm.av_store _⟩) (tm_widths _) i1' (by simp only [List.length_cons, List.length_nil]; omega) (by simp only [List.length_cons, List.length_nil]; omega) (fun b' hb' => ?_)
          rw [show acc.map Tm.av ++ [t.av] = (acc ++ [t]).map Tm.av by simp] at hb' ⊢
          obtain ⟨g1, g2, g3⟩ := kidS_set hb'
          simp only [List.cons_append, List.nil_append] at g1 g3
          simp -implicitDefEqProofs only [setCells, hwd', hwd, accV_agg, accV_width, accV_junk, accV_store, accV_cells, evb0, evb1, evb2, evb3, evb4, evb5, evb6, evb7, evb8, evb9, ↓evZ2, ↓evZ3, ↓Int.cast_ofNat_Int, implies_true, ne_eq, or_false, false_or, or_self, gt_iff_lt, isMut, aFn, List.contains, List.elem, aBox, aField, aLoad, sub, aNil, aPick, aExt, aFld, gd, noJunk, plainOp, aBuildSlice, aBuild, aFill, aParts, seqParts, fitAll, List.range', ↓reduceIte, reduceCtorEq, Nat.reduceEqDiff, Nat.reduceAdd, Nat.reduceLeDiff, Nat.reduceMul, Nat.reduceLT, Nat.reduceBEq, Int.reduceEq, tf_D2_107]
          refine ⟨ext_one g3, ?_⟩
          simp -implicitDefEqProofs only [g3, Nat.le_refl, g1, hwi, setCells, hwd', hwd, accV_agg, accV_width, accV_junk, accV_store, accV_cells, evb0, evb1, evb2, evb3, evb4, evb5, evb6, evb7, evb8, evb9, ↓evZ2, ↓evZ3, ↓Int.cast_ofNat_Int, implies_true, ne_eq, or_false, false_or, or_self, gt_iff_lt, isMut, aFn, List.contains, List.elem, aBox, aField, aLoad, sub, aNil, aPick, aExt, aFld, gd, noJunk, plainOp, aBuildSlice, aBuild, aFill, aParts, seqParts, fitAll, List.range', ↓reduceIte, reduceCtorEq, Nat.reduceEqDiff, Nat.reduceAdd, Nat.reduceLeDiff, Nat.reduceMul, Nat.reduceLT, Nat.reduceBEq, Int.reduceEq, tf_D2_107]
          refine ⟨(i - 1, b', acc ++ [t], q'), by simp only; omega, ⟨g2, by simp only [List.length_append, List.length_cons, List.length_nil]; omega, fun u hu => ?_, by simp only; omega, by simp only; omega⟩, LessL.mk (by simp -implicitDefEqProofs only [setCells, hwd', hwd, accV_agg, accV_width, accV_junk, accV_store, accV_cells, evb0, evb1, evb2, evb3, evb4, evb5, evb6, evb7, evb8, evb9, ↓evZ2, ↓evZ3, ↓Int.cast_ofNat_Int, implies_true, ne_eq, or_false, false_or, or_self, gt_iff_lt, isMut, aFn, List.contains, List.elem, aBox, aField, aLoad, sub, aNil, aPick, aExt, aFld, gd, noJunk, plainOp, aBuildSlice, aBuild, aFill, aParts, seqParts, fitAll, List.range', ↓reduceIte, reduceCtorEq, Nat.reduceEqDiff, Nat.reduceAdd, Nat.reduceLeDiff, Nat.reduceMul, Nat.reduceLT, Nat.reduceBEq, Int.reduceEq, tf_D2_107])⟩
          rcases List.mem_append.1 hu with hu | hu
          · exact i3 u hu
          · simp only [List.mem_cons, List.not_mem_nil, or_false] at hu
            subst hu
            exact ht
        · have hbo := kidS_c i1
          have h4o := kidS_ne i1 (x := b4) (by rw [hW4]; simp) h54.symm
          rw [hW4] at h4o
          simp -implicitDefEqProofs only [setCells, hbo, h4o, accV_store, evb0, evb1, evb2, evb3, evb4, evb5, evb6, evb7, evb8, evb9, ↓evZ2, ↓evZ3, ↓Int.cast_ofNat_Int, implies_true, ne_eq, or_false, false_or, or_self, gt_iff_lt, isMut, aFn, List.contains, List.elem, aBox, aField, aLoad, sub, aNil, aPick, aExt, aFld, gd, noJunk, plainOp, aBuildSlice, aBuild, aFill, aParts, seqParts, fitAll, List.range', ↓reduceIte, reduceCtorEq, Nat.reduceEqDiff, Nat.reduceAdd, Nat.reduceLeDiff, Nat.reduceMul, Nat.reduceLT, Nat.reduceBEq, Int.reduceEq, tf_D2_107]
          obtain ⟨g5, g6⟩ := kidS_upd (o := .cells [.int .i64 3, .int .i64 0, .str x, accV 4 b (acc.map Tm.av)]) i1 (show ((st.upd b4 (.cells [.int .i64 0, .int .i64 0, .str ⟨#[]⟩, .fslice []])).upd c (rdC bs q)) b4 ≠ none by rw [hW4]; simp) h54.symm
          refine ⟨b, _, _, g5, g6, tm_junk _, ⟨4, tm_widths _⟩, st.upd c (rdC bs q), ?_, q, i4, by omega, rfl, .mk 3 0 x acc, dn_mk (by omega) (by omega) i3, ?_⟩
          · intro y
            by_cases e4 : y = b4 <;> by_cases ec : y = c <;> by_cases e5 : y = b5 <;> simp_all [Store.upd]
          · simp only [fin_agg, List.map_cons, List.map_nil, fin_int, fin_str, accV_fin, Tm.av_mk]
termination_by d => d
decreasing_by exact hlt
end Go.AW

/- A held list and a struct that tells of it: the list is never written again. -/
namespace Go.AW
set_option linter.unusedSimpArgs false
theorem StepH.of {h : Heap} {st st' : Store} (hk : ∀ x, st x = none → st' x = none) : StepH h st h st' := ⟨Nat.le_refl _, fun x _ e => ⟨rfl, hk x e⟩, fun _ c _ _ e => ⟨c, e, rfl⟩⟩
theorem Less.freezeIn {φ : AF} {st : Store} {b c : Nat} {es cs : List AV} (hbc : b ≠ c) (h1 : st b = some (.cells (es.flatMap AV.cells))) (h2 : ∀ e ∈ es, e.isJunk = false) (h3 : Even es) (hc : st c = some (.cells cs)) :
    Less φ st φ ((st.erase b).upd c (.cells (fzL b es cs))) := fun h tmps S F => by
  have T2 : StepH h (st.erase b) h ((st.erase b).upd c (.cells (fzL b es cs))) := StepH.of fun x hx => by
    have : x ≠ c := by rintro rfl; simp [Store.erase, Ne.symm hbc, hc] at hx
    rw [Store.upd_ne _ _ this]; exact hx
  have T : StepH h st h ((st.erase b).upd c (.cells (fzL b es cs))) := ((Drops.erase' st b).step h).trans T2
  refine ⟨fun x o hx => ?_, T, fun d => (F d).mono T⟩
  by_cases e : x = c
  · subst e
    rw [Store.upd_same] at hx
    cases hx
    obtain ⟨hl, c0, t, e1, e2, vs, e3, e4⟩ := S x _ hc
    refine ⟨hl, c0, t, e1, ?_, vs, e3, VCs.mono T2 _ _ (VCs.fz S h1 h2 h3 cs vs e4)⟩
    rw [fzL_map, List.length_map]; exact e2
  · rw [Store.upd_ne _ _ e] at hx
    have hx' : st x = some o := by
      simp only [Store.erase] at hx
      split at hx
      · cases hx
      · exact hx
    obtain ⟨hl, y⟩ := S x o hx'
    exact ⟨hl, ORel.mono T rfl y⟩
theorem Less.softIn {φ : AF} {st : Store} {c : Nat} {cs : List AV} (hc : st c = some (.cells cs)) : Less φ st φ (st.upd c (.cells (softL cs))) := fun h tmps S F => by
  have T : StepH h st h (st.upd c (.cells (softL cs))) := StepH.of fun x hx => by
    have : x ≠ c := by rintro rfl; rw [hc] at hx; cases hx
    rw [Store.upd_ne _ _ this]; exact hx
  refine ⟨fun x o hx => ?_, T, fun d => (F d).mono T⟩
  by_cases e : x = c
  · subst e
    rw [Store.upd_same] at hx
    cases hx
    obtain ⟨hl, c0, t, e1, e2, vs, e3, e4⟩ := S x _ hc
    refine ⟨hl, c0, t, e1, ?_, vs, e3, VCs.mono T _ _ (VCs.soft cs vs e4)⟩
    rw [softL_map, List.length_map]; exact e2
  · rw [Store.upd_ne _ _ e] at hx
    obtain ⟨hl, y⟩ := S x o hx
    exact ⟨hl, ORel.mono T rfl y⟩
theorem less_kid {φ : AF} {S : Store} {c b : Nat} {k n : Int} {s : ByteArray} {l : List AV} (hb : l ≠ [] → (S.upd c (.cells ([.int .i64 k, .int .i64 n, .str s] ++ [accV 4 b l]))) b = none) (hj : ∀ e ∈ l, e.isJunk = false) (hE : Even l) :
    Less φ (kidS S c b [.int .i64 k, .int .i64 n, .str s] l) φ (S.upd c (.cells [.int .i64 k, .int .i64 n, .str s, .slice l])) := by
  have hcc := kidS_c hb
  cases l with
  | nil =>
    have := Less.softIn (φ := φ) hcc
    unfold kidS at this ⊢
    simp only [accS_nil, Store.upd_upd] at this
    exact this
  | cons y l =>
    have h0 := hb (by simp)
    have hne : b ≠ c := by rintro rfl; rw [Store.upd_same] at h0; cases h0
    have h1 : kidS S c b [.int .i64 k, .int .i64 n, .str s] (y :: l) b = some (.cells ((y :: l).flatMap AV.cells)) := by unfold kidS; simp only [accS]; exact Store.upd_same _ _ _
    have := Less.freezeIn (φ := φ) hne h1 hj hE hcc
    have e : (kidS S c b [.int .i64 k, .int .i64 n, .str s] (y :: l)).erase b = S.upd c (.cells ([.int .i64 k, .int .i64 n, .str s] ++ [accV 4 b (y :: l)])) := by unfold kidS; simp only [accS]; exact Store.erase_upd _ _ _ h0
    rw [e, Store.upd_upd] at this
    simpa [fzL, AV.fz, accV] using this
/-- The other fields turn. -/
theorem kidS_hd {S : Store} {c b : Nat} {hd hd' l : List AV} (hb : l ≠ [] → (S.upd c (.cells (hd ++ [accV 4 b l]))) b = none) :
    (kidS S c b hd l).upd c (.cells (hd' ++ [accV 4 b l])) = kidS S c b hd' l ∧ (l ≠ [] → (S.upd c (.cells (hd' ++ [accV 4 b l]))) b = none) := by
  have hne : l ≠ [] → c ≠ b := fun h e => by have := hb h; rw [← e, Store.upd_same] at this; cases this
  refine ⟨by unfold kidS; rw [accS_upd hne, Store.upd_upd], fun h => ?_⟩
  have := hb h
  rw [Store.upd_ne _ _ (Ne.symm (hne h))] at this ⊢
  exact this
/-- The struct is left, the list stays held. -/
theorem drops_acc2 {s0 st : Store} {b : Nat} {l : List AV} (D : Drops s0 st) : Drops (accS s0 b l) (accS st b l) := by
  cases l with
  | nil => exact D
  | cons y l =>
    intro x
    simp only [accS]
    by_cases e : x = b
    · subst e; simp [Store.upd_same]
    · rw [Store.upd_ne _ _ e, Store.upd_ne _ _ e]; exact D x
end Go.AW
