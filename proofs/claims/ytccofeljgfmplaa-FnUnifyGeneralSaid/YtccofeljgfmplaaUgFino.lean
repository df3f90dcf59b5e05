import Derived.Test.YtccofeljgfmplaaUgFinn
import Derived.Test.YtccofeljgfmplaaUgFinl
import Derived.Test.YtccofeljgfmplaaUgFinf
import Derived.Test.YtccofeljgfmplaaUgFinm

/- The program's unification of terms. -/
namespace Go.AW
open Go.Proofs.Try
set_option linter.unusedSimpArgs false
set_option maxRecDepth 100000

/-- What is resolved, if it is not too large. -/
def optR (v : Tm) : AV := if v.flat 30 = true ∧ v.nodes ≤ 120 then .tup [v.av, .bool true] else .tup [Tm.zero.av, .bool false]

theorem tf_S6_124 : (type_of% tI_2) ∧ (type_of% zI_2) ∧ (type_of% Go.Proofs.Try.underlying2) ∧ (type_of% tI_3) ∧ (type_of% zI_3) ∧ (type_of% Go.Proofs.Try.underlying3) ∧ (type_of% tI_4) ∧ (type_of% zI_4) ∧ (type_of% Go.Proofs.Try.underlying4) ∧ (type_of% tI_6) ∧ (type_of% zI_6) ∧ (type_of% Go.Proofs.Try.underlying6) ∧ (type_of% tI_7) ∧ (type_of% zI_7) ∧ (type_of% fI_7_0) ∧ (type_of% fI_7_1) ∧ (type_of% fI_7_2) ∧ (type_of% fI_7_3) ∧ (type_of% bI_7) ∧ (type_of% tI_8) ∧ (type_of% zI_8) ∧ (type_of% fI_8_0) ∧ (type_of% fI_8_1) ∧ (type_of% fI_8_2) ∧ (type_of% fI_8_3) ∧ (type_of% bI_8) ∧ (type_of% tI_9) ∧ (type_of% zI_9) ∧ (type_of% Go.Proofs.Try.underlying9) ∧ (type_of% tI_12) ∧ (type_of% zI_12) ∧ (type_of% Go.Proofs.Try.underlying12) ∧ (type_of% tI_41) ∧ (type_of% zI_41) ∧ (type_of% fI_41_0) ∧ (type_of% fI_41_1) ∧ (type_of% fI_41_2) ∧ (type_of% fI_41_3) ∧ (type_of% bI_41) ∧ (type_of% tI_64) ∧ (type_of% zI_64) ∧ (type_of% fI_64_0) ∧ (type_of% fI_64_1) ∧ (type_of% bI_64) ∧ (type_of% tI_102) ∧ (type_of% zI_102) ∧ (type_of% tI_111) ∧ (type_of% zI_111) ∧ (type_of% tI_171) ∧ (type_of% zI_171) ∧ (type_of% fI_171_0) ∧ (type_of% fI_171_1) ∧ (type_of% fI_171_2) ∧ (type_of% fI_171_3) ∧ (type_of% fI_171_4) ∧ (type_of% fI_171_5) ∧ (type_of% fI_171_6) ∧ (type_of% bI_171) := ⟨tI_2, zI_2, Go.Proofs.Try.underlying2, tI_3, zI_3, Go.Proofs.Try.underlying3, tI_4, zI_4, Go.Proofs.Try.underlying4, tI_6, zI_6, Go.Proofs.Try.underlying6, tI_7, zI_7, fI_7_0, fI_7_1, fI_7_2, fI_7_3, bI_7, tI_8, zI_8, fI_8_0, fI_8_1, fI_8_2, fI_8_3, bI_8, tI_9, zI_9, Go.Proofs.Try.underlying9, tI_12, zI_12, Go.Proofs.Try.underlying12, tI_41, zI_41, fI_41_0, fI_41_1, fI_41_2, fI_41_3, bI_41, tI_64, zI_64, fI_64_0, fI_64_1, bI_64, tI_102, zI_102, tI_111, zI_111, tI_171, zI_171, fI_171_0, fI_171_1, fI_171_2, fI_171_3, fI_171_4, fI_171_5, fI_171_6, bI_171⟩
theorem c_resolve {σ : Sub} {R : Int → Tm} {rk : Int → Nat} {B : Nat} (G : Good σ R rk B) (hcv : AllS Cv σ) (hsm : AllS Sm σ) (c m : Nat) (q : AV) (t : Tm) (hct : Cv t) (hst : Sm t) (st : Store) (hS : SubAt st c m q σ) :
    ACalls prog 124 [.ptr c 0, t.av] st (fun r st' => r = optR (t.mapv R) ∧ st' = st) := by
  refine ACalls.done ?_
  refine acalls_fit [1000000, 6] func124 ntmps124 rfl rfl (by kernel_rfl) (by decide +kernel) (by show 2 ≤ _; decide +kernel) ?_
  intro _
  simp -implicitDefEqProofs only [setCells, evb0, evb1, evb2, evb3, evb4, evb5, evb6, evb7, evb8, evb9, ↓evZ2, ↓evZ3, ↓Int.cast_ofNat_Int, implies_true, ne_eq, or_false, false_or, or_self, gt_iff_lt, isMut, aFn, List.contains, List.elem, aBox, aField, aLoad, sub, aNil, aPick, aExt, aFld, gd, noJunk, plainOp, aBuildSlice, aBuild, aFill, aParts, seqParts, fitAll, List.range', ↓reduceIte, reduceCtorEq, Nat.reduceEqDiff, Nat.reduceAdd, Nat.reduceLeDiff, Nat.reduceMul, Nat.reduceLT, Nat.reduceBEq, Int.reduceEq, tf_S6_124]
  intro b4 h4 b6 h6
  have hne : b6 ≠ b4 := by rintro rfl; rw [Store.upd_same] at h6; cases h6
  have hn6 : st b6 = none := by rw [Store.upd_ne st _ hne] at h6; exact h6
  have hS' : ∀ o o', SubAt ((st.upd b4 o).upd b6 o') c m q σ := fun o o' => (hS.upd h4).upd (by rw [Store.upd_ne _ _ hne]; exact hn6)
  obtain ⟨h6c, h6m⟩ := hS.ne hn6
  have hc := c_resolving G hcv hsm c m b6 q ⟨h6c, h6m⟩ 30 t 0 _ (by omega) hct hst (by omega) (hS' (.cells [.int .i64 0, .int .i64 0, .str ⟨#[]⟩, .fslice []]) (.cells [.int .i64 0])) (Store.upd_same _ _ _)
  rw [show (31 - ((30 : Nat) : Int)) = 1 from rfl] at hc
  refine hc.mono ?_
  rintro r s2 ⟨cnt', _, rfl, hr⟩
  unfold optR
  rw [Nat.zero_add] at hr
  split at hr
  · rename_i hok
    obtain ⟨rfl, _⟩ := hr
    rw [if_pos hok]
    simp -implicitDefEqProofs only [Tm.av_cells, Tm.av_store, Tm.av_agg, Tm.av_width, setCells, hne, hne.symm, evb0, evb1, evb2, evb3, evb4, evb5, evb6, evb7, evb8, evb9, ↓evZ2, ↓evZ3, ↓Int.cast_ofNat_Int, implies_true, ne_eq, or_false, false_or, or_self, gt_iff_lt, isMut, aFn, List.contains, List.elem, aBox, aField, aLoad, sub, aNil, aPick, aExt, aFld, gd, noJunk, plainOp, aBuildSlice, aBuild, aFill, aParts, seqParts, fitAll, List.range', ↓reduceIte, reduceCtorEq, Nat.reduceEqDiff, Nat.reduceAdd, Nat.reduceLeDiff, Nat.reduceMul, Nat.reduceLT, Nat.reduceBEq, Int.reduceEq, tf_S6_124]
    exact ⟨by simp only [soft_agg, soft_tup, soft_int, soft_bool, soft_str, soft_slice, soft_fslice, soft_ptr, soft_pptr, soft_map, soft_mslice, Tm.soft, List.map_cons, List.map_nil], (((Drops.refl _).upd h4).upd hn6).upd h4⟩
  · rename_i hok
    subst hr
    rw [if_neg hok]
    simp -implicitDefEqProofs only [Tm.zero, Tm.av_mk, List.map_nil, setCells, hne, hne.symm, evb0, evb1, evb2, evb3, evb4, evb5, evb6, evb7, evb8, evb9, ↓evZ2, ↓evZ3, ↓Int.cast_ofNat_Int, implies_true, ne_eq, or_false, false_or, or_self, gt_iff_lt, isMut, aFn, List.contains, List.elem, aBox, aField, aLoad, sub, aNil, aPick, aExt, aFld, gd, noJunk, plainOp, aBuildSlice, aBuild, aFill, aParts, seqParts, fitAll, List.range', ↓reduceIte, reduceCtorEq, Nat.reduceEqDiff, Nat.reduceAdd, Nat.reduceLeDiff, Nat.reduceMul, Nat.reduceLT, Nat.reduceBEq, Int.reduceEq, tf_S6_124]
    exact ⟨by simp only [soft_agg, soft_tup, soft_int, soft_bool, soft_str, soft_slice, soft_fslice, soft_ptr, soft_pptr, soft_map, soft_mslice, Tm.soft, List.map_cons, List.map_nil], (((Drops.refl _).upd h4).upd hn6).upd h4⟩

theorem tf_S6_69 : (type_of% tI_4) ∧ (type_of% zI_4) ∧ (type_of% Go.Proofs.Try.underlying4) ∧ (type_of% tI_102) ∧ (type_of% zI_102) ∧ (type_of% tI_147) ∧ (type_of% zI_147) ∧ (type_of% Go.Proofs.Try.underlying147) ∧ (type_of% tI_157) ∧ (type_of% zI_157) ∧ (type_of% fI_157_0) ∧ (type_of% fI_157_1) ∧ (type_of% bI_157) := ⟨tI_4, zI_4, Go.Proofs.Try.underlying4, tI_102, zI_102, tI_147, zI_147, Go.Proofs.Try.underlying147, tI_157, zI_157, fI_157_0, fI_157_1, bI_157⟩
theorem c_newStore (st : Store) : ACalls prog 69 [] st (fun r st' => ∃ c m, r = .ptr c 0 ∧ Sto st' c m (.fslice []) Sub.none [] ∧ StepQ c m st (.fslice []) st' (.fslice []) ∧ st c = none ∧ st m = none) := by
  refine acalls_fit [1000000, 3] func69 ntmps69 rfl rfl (by kernel_rfl) (by decide +kernel) (by show 0 ≤ _; decide +kernel) ?_
  intro _
  simp -implicitDefEqProofs only [setCells, evb0, evb1, evb2, evb3, evb4, evb5, evb6, evb7, evb8, evb9, ↓evZ2, ↓evZ3, ↓Int.cast_ofNat_Int, implies_true, ne_eq, or_false, false_or, or_self, gt_iff_lt, isMut, aFn, List.contains, List.elem, aBox, aField, aLoad, sub, aNil, aPick, aExt, aFld, gd, noJunk, plainOp, aBuildSlice, aBuild, aFill, aParts, seqParts, fitAll, List.range', ↓reduceIte, reduceCtorEq, Nat.reduceEqDiff, Nat.reduceAdd, Nat.reduceLeDiff, Nat.reduceMul, Nat.reduceLT, Nat.reduceBEq, Int.reduceEq, tf_S6_69]
  intro m hm c hc
  have hne : c ≠ m := by rintro rfl; rw [Store.upd_same] at hc; cases hc
  have hnc : st c = none := by rw [Store.upd_ne st _ hne] at hc; exact hc
  refine ⟨c, m, rfl, ⟨⟨Store.upd_same _ _ _, by rw [Store.upd_ne _ _ hne.symm, Store.upd_same]; rfl⟩, .inl ⟨rfl, rfl⟩, by simp [tbk]⟩, ⟨fun x o h h1 h2 _ => by rw [Store.upd_ne _ _ h1, Store.upd_ne _ _ h2]; exact h, by simp [tbk]⟩, hnc, hm⟩

/-- The bindings of the first variables. -/
noncomputable def bindsTo (σ : Sub) (i : Nat) : List Bd := (List.range i).filterMap fun i : Nat => (σ (i : Int)).map fun u => ((i : Int), u.mapv (rs σ))
theorem bindsTo_26 (σ : Sub) : bindsTo σ 26 = bindsOf σ := rfl
theorem bindsTo_none {σ : Sub} {i : Nat} (h : σ (i : Int) = none) : bindsTo σ (i + 1) = bindsTo σ i := by
  unfold bindsTo
  rw [List.range_succ, List.filterMap_append]
  simp [h]
theorem bindsTo_some {σ : Sub} {i : Nat} {u : Tm} (h : σ (i : Int) = some u) : bindsTo σ (i + 1) = bindsTo σ i ++ [((i : Int), u.mapv (rs σ))] := by
  unfold bindsTo
  rw [List.range_succ, List.filterMap_append]
  simp [h]
theorem bindsTo_len (σ : Sub) (i : Nat) : (bindsTo σ i).length ≤ i := by
  have := List.length_filterMap_le (fun i : Nat => (σ (i : Int)).map fun u => ((i : Int), u.mapv (rs σ))) (List.range i)
  simpa [bindsTo] using this
abbrev fitB (b : Bd) : Bool := b.2.flat 30 && decide (b.2.nodes ≤ 120)
/-- All bindings, if none is too large. -/
noncomputable def allAv (σ : Sub) : AV := if (bindsOf σ).all fitB = true then .tup [.slice ((bindsOf σ).map bdAv), .bool true] else .tup [.slice [], .bool false]
theorem bindsTo_bad {σ : Sub} {i : Nat} {u : Tm} (hi : i < 26) (h : σ (i : Int) = some u) (hb : ¬ ((u.mapv (rs σ)).flat 30 = true ∧ (u.mapv (rs σ)).nodes ≤ 120)) : ¬ (bindsOf σ).all fitB = true := by
  intro h2
  have : ((i : Int), u.mapv (rs σ)) ∈ bindsOf σ := by
    unfold bindsOf
    rw [List.mem_filterMap]
    exact ⟨i, by simp [hi], by simp [h]⟩
  have := List.all_eq_true.1 h2 _ this
  simp only [fitB, Bool.and_eq_true, decide_eq_true_eq] at this
  exact hb this

theorem SubAt.acc {st : Store} {c m b : Nat} {q : AV} {σ : Sub} {l : List AV} (h : SubAt st c m q σ) (hb : l ≠ [] → st b = none) : SubAt (accS st b l) c m q σ := by
  cases l with
  | nil => exact h
  | cons x l => exact h.upd (hb (by simp))
theorem tf_S6_71 : (type_of% tI_2) ∧ (type_of% zI_2) ∧ (type_of% Go.Proofs.Try.underlying2) ∧ (type_of% tI_3) ∧ (type_of% zI_3) ∧ (type_of% Go.Proofs.Try.underlying3) ∧ (type_of% tI_4) ∧ (type_of% zI_4) ∧ (type_of% Go.Proofs.Try.underlying4) ∧ (type_of% tI_5) ∧ (type_of% zI_5) ∧ (type_of% Go.Proofs.Try.underlying5) ∧ (type_of% tI_6) ∧ (type_of% zI_6) ∧ (type_of% Go.Proofs.Try.underlying6) ∧ (type_of% tI_7) ∧ (type_of% zI_7) ∧ (type_of% fI_7_0) ∧ (type_of% fI_7_1) ∧ (type_of% fI_7_2) ∧ (type_of% fI_7_3) ∧ (type_of% bI_7) ∧ (type_of% tI_8) ∧ (type_of% zI_8) ∧ (type_of% fI_8_0) ∧ (type_of% fI_8_1) ∧ (type_of% fI_8_2) ∧ (type_of% fI_8_3) ∧ (type_of% bI_8) ∧ (type_of% tI_9) ∧ (type_of% zI_9) ∧ (type_of% Go.Proofs.Try.underlying9) ∧ (type_of% tI_10) ∧ (type_of% zI_10) ∧ (type_of% Go.Proofs.Try.underlying10) ∧ (type_of% tI_11) ∧ (type_of% zI_11) ∧ (type_of% Go.Proofs.Try.underlying11) ∧ (type_of% tI_12) ∧ (type_of% zI_12) ∧ (type_of% Go.Proofs.Try.underlying12) ∧ (type_of% tI_24) ∧ (type_of% zI_24) ∧ (type_of% fI_24_0) ∧ (type_of% bI_24) ∧ (type_of% tI_31) ∧ (type_of% zI_31) ∧ (type_of% fI_31_0) ∧ (type_of% bI_31) ∧ (type_of% tI_39) ∧ (type_of% zI_39) ∧ (type_of% eI_39) ∧ (type_of% eB_39) ∧ (type_of% eZ_39) ∧ (type_of% Go.Proofs.Try.underlying39) ∧ (type_of% tI_41) ∧ (type_of% zI_41) ∧ (type_of% fI_41_0) ∧ (type_of% fI_41_1) ∧ (type_of% fI_41_2) ∧ (type_of% fI_41_3) ∧ (type_of% bI_41) ∧ (type_of% tI_44) ∧ (type_of% zI_44) ∧ (type_of% eI_44) ∧ (type_of% eB_44) ∧ (type_of% eZ_44) ∧ (type_of% Go.Proofs.Try.underlying44) ∧ (type_of% tI_54) ∧ (type_of% zI_54) ∧ (type_of% fI_54_0) ∧ (type_of% fI_54_1) ∧ (type_of% bI_54) ∧ (type_of% tI_64) ∧ (type_of% zI_64) ∧ (type_of% fI_64_0) ∧ (type_of% fI_64_1) ∧ (type_of% bI_64) ∧ (type_of% tI_102) ∧ (type_of% zI_102) ∧ (type_of% tI_119) ∧ (type_of% zI_119) ∧ (type_of% fI_119_0) ∧ (type_of% fI_119_1) ∧ (type_of% bI_119) ∧ (type_of% tI_147) ∧ (type_of% zI_147) ∧ (type_of% Go.Proofs.Try.underlying147) ∧ (type_of% tI_157) ∧ (type_of% zI_157) ∧ (type_of% fI_157_0) ∧ (type_of% fI_157_1) ∧ (type_of% bI_157) := ⟨tI_2, zI_2, Go.Proofs.Try.underlying2, tI_3, zI_3, Go.Proofs.Try.underlying3, tI_4, zI_4, Go.Proofs.Try.underlying4, tI_5, zI_5, Go.Proofs.Try.underlying5, tI_6, zI_6, Go.Proofs.Try.underlying6, tI_7, zI_7, fI_7_0, fI_7_1, fI_7_2, fI_7_3, bI_7, tI_8, zI_8, fI_8_0, fI_8_1, fI_8_2, fI_8_3, bI_8, tI_9, zI_9, Go.Proofs.Try.underlying9, tI_10, zI_10, Go.Proofs.Try.underlying10, tI_11, zI_11, Go.Proofs.Try.underlying11, tI_12, zI_12, Go.Proofs.Try.underlying12, tI_24, zI_24, fI_24_0, bI_24, tI_31, zI_31, fI_31_0, bI_31, tI_39, zI_39, eI_39, eB_39, eZ_39, Go.Proofs.Try.underlying39, tI_41, zI_41, fI_41_0, fI_41_1, fI_41_2, fI_41_3, bI_41, tI_44, zI_44, eI_44, eB_44, eZ_44, Go.Proofs.Try.underlying44, tI_54, zI_54, fI_54_0, fI_54_1, bI_54, tI_64, zI_64, fI_64_0, fI_64_1, bI_64, tI_102, zI_102, tI_119, zI_119, fI_119_0, fI_119_1, bI_119, tI_147, zI_147, Go.Proofs.Try.underlying147, tI_157, zI_157, fI_157_0, fI_157_1, bI_157⟩
theorem c_all {σ : Sub} (hg : IsGood σ) (hcv : AllS Cv σ) (hsm : AllS Sm σ) (c m : Nat) (q : AV) (st : Store) (hS : SubAt st c m q σ) :
    ACalls prog 71 [.ptr c 0] st (fun r st' => r = allAv σ ∧ st' = st) := by
  obtain ⟨rk, B, G⟩ := hg.rs
  refine ACalls.done ?_
  refine acalls_fit [1000000] func71 ntmps71 rfl rfl (by kernel_rfl) (by decide +kernel) (by show 1 ≤ _; decide +kernel) ?_
  intro _
  have hl := fun (st' : Store) (hm : st' m = some (AO.map (mapOf σ))) (n : Int) => look_sub (P := prog) (n := n) hm underlying147 underlying3 zV_41
  simp -implicitDefEqProofs only [evb0, evb1, evb2, evb3, evb4, evb5, evb6, evb7, evb8, evb9, ↓evZ2, ↓evZ3, ↓Int.cast_ofNat_Int, implies_true, ne_eq, or_false, false_or, or_self, gt_iff_lt, isMut, aFn, List.contains, List.elem, aBox, aField, aLoad, sub, aNil, aPick, aExt, aFld, gd, noJunk, plainOp, aBuildSlice, aBuild, aFill, aParts, seqParts, fitAll, List.range', ↓reduceIte, reduceCtorEq, Nat.reduceEqDiff, Nat.reduceAdd, Nat.reduceLeDiff, Nat.reduceMul, Nat.reduceLT, Nat.reduceBEq, Int.reduceEq, tf_S6_71]
  refine arun_grow (σ := Unit) [1000000] [0] (List.range 26) 5 4 (fun i _ => (bindsTo σ i).map bdAv) (fun i _ => (bindsTo σ i).all fitB = true) (fun i _ => [(2, .fslice []), (3, .bool false), (9, .int .i64 i)]) (fun _ _ => st) (fun i _ _ e he => by simp only [List.mem_map] at he; obtain ⟨t, _, rfl⟩ := he; exact ⟨bdAv_junk t, bdAv_width t⟩) (by decide +kernel) ⟨(), 0, rfl, fun h => absurd rfl h, LessL.mk (by simp -implicitDefEqProofs only [show bindsTo σ 0 = [] from rfl, List.map_nil, accV_nil, accS_nil, evb0, evb1, evb2, evb3, evb4, evb5, evb6, evb7, evb8, evb9, ↓evZ2, ↓evZ3, ↓Int.cast_ofNat_Int, implies_true, ne_eq, or_false, false_or, or_self, gt_iff_lt, isMut, aFn, List.contains, List.elem, aBox, aField, aLoad, sub, aNil, aPick, aExt, aFld, gd, noJunk, plainOp, aBuildSlice, aBuild, aFill, aParts, seqParts, fitAll, List.range', ↓reduceIte, reduceCtorEq, Nat.reduceEqDiff, Nat.reduceAdd, Nat.reduceLeDiff, Nat.reduceMul, Nat.reduceLT, Nat.reduceBEq, Int.reduceEq, tf_S6_71])⟩ (fun i x s b hx hlt hlt' hdr hinv hb => ?_) (fun s b hge hinv => ?_)
  · rw [List.length_range] at hlt
    have hx' : x = i := by rw [List.getElem?_range hlt] at hx; exact (Option.some.inj hx).symm
    subst hx'
    have hlen' := bindsTo_len σ x
    have hw := wrap64 (n := (x : Int) + 1) (by omega) (by omega)
    have hlt2 : decide ((x : Int) < 26) = true := by simp; omega
    have hSA := hS.acc hb
    have hlA := hl _ hSA.map
    simp -implicitDefEqProofs only [hlt2, hSA.cells, hlA, evb0, evb1, evb2, evb3, evb4, evb5, evb6, evb7, evb8, evb9, ↓evZ2, ↓evZ3, ↓Int.cast_ofNat_Int, implies_true, ne_eq, or_false, false_or, or_self, gt_iff_lt, isMut, aFn, List.contains, List.elem, aBox, aField, aLoad, sub, aNil, aPick, aExt, aFld, gd, noJunk, plainOp, aBuildSlice, aBuild, aFill, aParts, seqParts, fitAll, List.range', ↓reduceIte, reduceCtorEq, Nat.reduceEqDiff, Nat.reduceAdd, Nat.reduceLeDiff, Nat.reduceMul, Nat.reduceLT, Nat.reduceBEq, Int.reduceEq, tf_S6_71]
    cases h : σ (x : Int) with
    | none =>
      rw [← bindsTo_none h] at hinv hb ⊢
      simp -implicitDefEqProofs only [found, hw, evb0, evb1, evb2, evb3, evb4, evb5, evb6, evb7, evb8, evb9, ↓evZ2, ↓evZ3, ↓Int.cast_ofNat_Int, implies_true, ne_eq, or_false, false_or, or_self, gt_iff_lt, isMut, aFn, List.contains, List.elem, aBox, aField, aLoad, sub, aNil, aPick, aExt, aFld, gd, noJunk, plainOp, aBuildSlice, aBuild, aFill, aParts, seqParts, fitAll, List.range', ↓reduceIte, reduceCtorEq, Nat.reduceEqDiff, Nat.reduceAdd, Nat.reduceLeDiff, Nat.reduceMul, Nat.reduceLT, Nat.reduceBEq, Int.reduceEq, tf_S6_71]
      exact ⟨(), b, hinv, hb, LessL.mk (by simp -implicitDefEqProofs only [hw, hw, evb0, evb1, evb2, evb3, evb4, evb5, evb6, evb7, evb8, evb9, ↓evZ2, ↓evZ3, ↓Int.cast_ofNat_Int, implies_true, ne_eq, or_false, false_or, or_self, gt_iff_lt, isMut, aFn, List.contains, List.elem, aBox, aField, aLoad, sub, aNil, aPick, aExt, aFld, gd, noJunk, plainOp, aBuildSlice, aBuild, aFill, aParts, seqParts, fitAll, List.range', ↓reduceIte, reduceCtorEq, Nat.reduceEqDiff, Nat.reduceAdd, Nat.reduceLeDiff, Nat.reduceMul, Nat.reduceLT, Nat.reduceBEq, Int.reduceEq, tf_S6_71])⟩
    | some u =>
      have hct := hcv _ _ h
      have hst := hsm _ _ h
      simp -implicitDefEqProofs only [found, Tm.av_agg, Tm.av_width, Tm.av_junk, Tm.av_store, evb0, evb1, evb2, evb3, evb4, evb5, evb6, evb7, evb8, evb9, ↓evZ2, ↓evZ3, ↓Int.cast_ofNat_Int, implies_true, ne_eq, or_false, false_or, or_self, gt_iff_lt, isMut, aFn, List.contains, List.elem, aBox, aField, aLoad, sub, aNil, aPick, aExt, aFld, gd, noJunk, plainOp, aBuildSlice, aBuild, aFill, aParts, seqParts, fitAll, List.range', ↓reduceIte, reduceCtorEq, Nat.reduceEqDiff, Nat.reduceAdd, Nat.reduceLeDiff, Nat.reduceMul, Nat.reduceLT, Nat.reduceBEq, Int.reduceEq, tf_S6_71]
      refine (c_resolve G hcv hsm c m q u hct hst _ hSA).to ?_
      unfold optR
      split
      · rename_i hok
        simp -implicitDefEqProofs only [Tm.av_agg, Tm.av_width, Tm.av_junk, Tm.av_store, evb0, evb1, evb2, evb3, evb4, evb5, evb6, evb7, evb8, evb9, ↓evZ2, ↓evZ3, ↓Int.cast_ofNat_Int, implies_true, ne_eq, or_false, false_or, or_self, gt_iff_lt, isMut, aFn, List.contains, List.elem, aBox, aField, aLoad, sub, aNil, aPick, aExt, aFld, gd, noJunk, plainOp, aBuildSlice, aBuild, aFill, aParts, seqParts, fitAll, List.range', ↓reduceIte, reduceCtorEq, Nat.reduceEqDiff, Nat.reduceAdd, Nat.reduceLeDiff, Nat.reduceMul, Nat.reduceLT, Nat.reduceBEq, Int.reduceEq, tf_S6_71]
        rw [bdAv_mk]
        have hlen2 : ((bindsTo σ x).map bdAv).length ≤ x := by rw [List.length_map]; exact hlen'
        refine acc_append eI_44 eB_44 eZ_44 rfl rfl (by intro e he; simp only [List.mem_cons, List.not_mem_nil, or_false] at he; subst he; exact ⟨bdAv_width _, bdAv_store _⟩) (bd_widths _) hb (by simp only [List.length_cons, List.length_nil]; omega) (by simp only [List.length_cons, List.length_nil]; omega) (fun b' hb' => ?_)
        rw [show (bindsTo σ x).map bdAv ++ [bdAv ((x : Int), u.mapv (rs σ))] = (bindsTo σ (x + 1)).map bdAv by rw [bindsTo_some h]; simp] at hb' ⊢
        simp -implicitDefEqProofs only [Tm.av_agg, Tm.av_width, Tm.av_junk, Tm.av_store, evb0, evb1, evb2, evb3, evb4, evb5, evb6, evb7, evb8, evb9, ↓evZ2, ↓evZ3, ↓Int.cast_ofNat_Int, implies_true, ne_eq, or_false, false_or, or_self, gt_iff_lt, isMut, aFn, List.contains, List.elem, aBox, aField, aLoad, sub, aNil, aPick, aExt, aFld, gd, noJunk, plainOp, aBuildSlice, aBuild, aFill, aParts, seqParts, fitAll, List.range', ↓reduceIte, reduceCtorEq, Nat.reduceEqDiff, Nat.reduceAdd, Nat.reduceLeDiff, Nat.reduceMul, Nat.reduceLT, Nat.reduceBEq, Int.reduceEq, tf_S6_71]
        refine ⟨(), b', ?_, hb', LessL.mk (by simp -implicitDefEqProofs only [hw, Tm.av_agg, Tm.av_width, Tm.av_junk, Tm.av_store, evb0, evb1, evb2, evb3, evb4, evb5, evb6, evb7, evb8, evb9, ↓evZ2, ↓evZ3, ↓Int.cast_ofNat_Int, implies_true, ne_eq, or_false, false_or, or_self, gt_iff_lt, isMut, aFn, List.contains, List.elem, aBox, aField, aLoad, sub, aNil, aPick, aExt, aFld, gd, noJunk, plainOp, aBuildSlice, aBuild, aFill, aParts, seqParts, fitAll, List.range', ↓reduceIte, reduceCtorEq, Nat.reduceEqDiff, Nat.reduceAdd, Nat.reduceLeDiff, Nat.reduceMul, Nat.reduceLT, Nat.reduceBEq, Int.reduceEq, tf_S6_71])⟩
        rw [bindsTo_some h, List.all_append, hinv]
        simp [fitB, hok]
      · rename_i hok
        simp -implicitDefEqProofs only [Tm.av_agg, Tm.av_width, Tm.av_junk, Tm.av_store, evb0, evb1, evb2, evb3, evb4, evb5, evb6, evb7, evb8, evb9, ↓evZ2, ↓evZ3, ↓Int.cast_ofNat_Int, implies_true, ne_eq, or_false, false_or, or_self, gt_iff_lt, isMut, aFn, List.contains, List.elem, aBox, aField, aLoad, sub, aNil, aPick, aExt, aFld, gd, noJunk, plainOp, aBuildSlice, aBuild, aFill, aParts, seqParts, fitAll, List.range', ↓reduceIte, reduceCtorEq, Nat.reduceEqDiff, Nat.reduceAdd, Nat.reduceLeDiff, Nat.reduceMul, Nat.reduceLT, Nat.reduceBEq, Int.reduceEq, tf_S6_71]
        refine ⟨?_, Drops.accS (Drops.refl _) hb⟩
        unfold allAv
        rw [if_neg (bindsTo_bad hlt h hok)]
        simp only [soft_agg, soft_tup, soft_int, soft_bool, soft_str, soft_slice, soft_fslice, soft_ptr, soft_pptr, soft_map, soft_mslice, Tm.soft, List.map_cons, List.map_nil]
  · have hge' : decide ((25 : Int) + 1 < 26) = false := rfl
    rw [List.length_range] at hinv
    simp -implicitDefEqProofs only [List.length_range, hge', fin_accV, finL, fin_slice, fin_fslice, fin_bool, fin_int, fin_ptr, hS.cells, evb0, evb1, evb2, evb3, evb4, evb5, evb6, evb7, evb8, evb9, ↓evZ2, ↓evZ3, ↓Int.cast_ofNat_Int, implies_true, ne_eq, or_false, false_or, or_self, gt_iff_lt, isMut, aFn, List.contains, List.elem, aBox, aField, aLoad, sub, aNil, aPick, aExt, aFld, gd, noJunk, plainOp, aBuildSlice, aBuild, aFill, aParts, seqParts, fitAll, List.range', ↓reduceIte, reduceCtorEq, Nat.reduceEqDiff, Nat.reduceAdd, Nat.reduceLeDiff, Nat.reduceMul, Nat.reduceLT, Nat.reduceBEq, Int.reduceEq, tf_S6_71]
    rw [bindsTo_26] at hinv ⊢
    refine ⟨?_, Drops.refl _⟩
    unfold allAv
    rw [if_pos hinv]
    simp only [soft_agg, soft_tup, soft_int, soft_bool, soft_str, soft_slice, soft_fslice, soft_ptr, soft_pptr, soft_map, soft_mslice, Tm.soft, List.map_cons, List.map_nil]
theorem StepQ.drops {c m : Nat} {st st' : Store} {q' : AV} (x : StepQ c m st (.fslice []) st' q') (hc : st c = none) (hm : st m = none) : Drops st' st := fun b => by
  have key : ∀ o, st b = some o → st' b = some o := fun o h => x.frame b o h (by rintro rfl; rw [hc] at h; cases h) (by rintro rfl; rw [hm] at h; cases h) (by simp [tbk])
  refine ⟨fun h => ?_, key⟩
  cases hb : st b with
  | none => rfl
  | some o => rw [key o hb] at h; cases h
def uniAv : Option (List Bd) → AV
  | some bs => .tup [.slice (bs.map bdAv), .bool true]
  | none => .tup [.slice [], .bool false]
theorem Unif.fit {a b : Tm} {r : Bool} {σ : Sub} {tr : List Int} (h : Unif a b r σ tr) : ((bindsOf σ).all fun x => x.2.valid) = (bindsOf σ).all fitB := by
  obtain ⟨rk, B, G⟩ := h.uni.good.rs
  have key : ∀ l : List Bd, (∀ x ∈ l, x ∈ bindsOf σ) → (l.all fun x => x.2.valid) = l.all fitB := by
    intro l
    induction l with
    | nil => intro _; rfl
    | cons x l ih =>
      intro hl
      rw [List.all_cons, List.all_cons, ih fun y hy => hl y (by simp [hy])]
      congr 1
      have := hl x (by simp)
      unfold bindsOf at this
      rw [List.mem_filterMap] at this
      obtain ⟨i, _, hi⟩ := this
      cases hs : σ (i : Int) with
      | none => rw [hs] at hi; cases hi
      | some u =>
        rw [hs] at hi
        simp only [Option.map_some, Option.some.injEq] at hi
        subst hi
        exact Tm.valid_iff (G.okT h.okA (h.okA _ u hs))
  exact key _ fun _ h => h
theorem uniB_eq {a b : Tm} (ha : a.valid = true) (hb : b.valid = true) {r : Bool} {σ : Sub} {tr : List Int} (h : Unif a b r σ tr) (e : uniR a b = (r, σ, tr)) :
    uniAv (uniB a b) = if r = true then allAv σ else .tup [.slice [], .bool false] := by
  unfold uniB allAv
  rw [e]
  simp only [h.fit, ha, hb, true_and]
  cases r with
  | false => simp [uniAv]
  | true =>
    simp only [true_and, if_true]
    split <;> rfl

theorem tf_S6_23 : (type_of% tI_2) ∧ (type_of% zI_2) ∧ (type_of% Go.Proofs.Try.underlying2) ∧ (type_of% tI_3) ∧ (type_of% zI_3) ∧ (type_of% Go.Proofs.Try.underlying3) ∧ (type_of% tI_4) ∧ (type_of% zI_4) ∧ (type_of% Go.Proofs.Try.underlying4) ∧ (type_of% tI_7) ∧ (type_of% zI_7) ∧ (type_of% fI_7_0) ∧ (type_of% fI_7_1) ∧ (type_of% fI_7_2) ∧ (type_of% fI_7_3) ∧ (type_of% bI_7) ∧ (type_of% tI_8) ∧ (type_of% zI_8) ∧ (type_of% fI_8_0) ∧ (type_of% fI_8_1) ∧ (type_of% fI_8_2) ∧ (type_of% fI_8_3) ∧ (type_of% bI_8) ∧ (type_of% tI_9) ∧ (type_of% zI_9) ∧ (type_of% Go.Proofs.Try.underlying9) ∧ (type_of% tI_12) ∧ (type_of% zI_12) ∧ (type_of% Go.Proofs.Try.underlying12) ∧ (type_of% tI_13) ∧ (type_of% zI_13) ∧ (type_of% fI_13_0) ∧ (type_of% fI_13_1) ∧ (type_of% bI_13) ∧ (type_of% tI_17) ∧ (type_of% zI_17) ∧ (type_of% tI_18) ∧ (type_of% zI_18) ∧ (type_of% fI_18_0) ∧ (type_of% bI_18) ∧ (type_of% tI_19) ∧ (type_of% zI_19) ∧ (type_of% fI_19_0) ∧ (type_of% bI_19) ∧ (type_of% tI_23) ∧ (type_of% zI_23) ∧ (type_of% fI_23_0) ∧ (type_of% bI_23) ∧ (type_of% tI_24) ∧ (type_of% zI_24) ∧ (type_of% fI_24_0) ∧ (type_of% bI_24) ∧ (type_of% tI_27) ∧ (type_of% zI_27) ∧ (type_of% eI_27) ∧ (type_of% eB_27) ∧ (type_of% eZ_27) ∧ (type_of% Go.Proofs.Try.underlying27) ∧ (type_of% tI_41) ∧ (type_of% zI_41) ∧ (type_of% fI_41_0) ∧ (type_of% fI_41_1) ∧ (type_of% fI_41_2) ∧ (type_of% fI_41_3) ∧ (type_of% bI_41) ∧ (type_of% tI_44) ∧ (type_of% zI_44) ∧ (type_of% eI_44) ∧ (type_of% eB_44) ∧ (type_of% eZ_44) ∧ (type_of% Go.Proofs.Try.underlying44) ∧ (type_of% tI_71) ∧ (type_of% zI_71) ∧ (type_of% eI_71) ∧ (type_of% eB_71) ∧ (type_of% eZ_71) ∧ (type_of% Go.Proofs.Try.underlying71) ∧ (type_of% tI_102) ∧ (type_of% zI_102) ∧ (type_of% tI_131) ∧ (type_of% zI_131) ∧ (type_of% fI_131_0) ∧ (type_of% fI_131_1) ∧ (type_of% bI_131) := ⟨tI_2, zI_2, Go.Proofs.Try.underlying2, tI_3, zI_3, Go.Proofs.Try.underlying3, tI_4, zI_4, Go.Proofs.Try.underlying4, tI_7, zI_7, fI_7_0, fI_7_1, fI_7_2, fI_7_3, bI_7, tI_8, zI_8, fI_8_0, fI_8_1, fI_8_2, fI_8_3, bI_8, tI_9, zI_9, Go.Proofs.Try.underlying9, tI_12, zI_12, Go.Proofs.Try.underlying12, tI_13, zI_13, fI_13_0, fI_13_1, bI_13, tI_17, zI_17, tI_18, zI_18, fI_18_0, bI_18, tI_19, zI_19, fI_19_0, bI_19, tI_23, zI_23, fI_23_0, bI_23, tI_24, zI_24, fI_24_0, bI_24, tI_27, zI_27, eI_27, eB_27, eZ_27, Go.Proofs.Try.underlying27, tI_41, zI_41, fI_41_0, fI_41_1, fI_41_2, fI_41_3, bI_41, tI_44, zI_44, eI_44, eB_44, eZ_44, Go.Proofs.Try.underlying44, tI_71, zI_71, eI_71, eB_71, eZ_71, Go.Proofs.Try.underlying71, tI_102, zI_102, tI_131, zI_131, fI_131_0, fI_131_1, bI_131⟩
theorem c_impl_UnifyTerms (a b : Tm) (st : Store) : ACalls prog 23 [a.av, b.av] st (fun r st' => r = uniAv (uniB a b) ∧ st' = st) := by
  refine ACalls.done ?_
  refine acalls_fit [1000000] func23 ntmps23 rfl rfl (by kernel_rfl) (by decide +kernel) (by show 2 ≤ _; decide +kernel) ?_
  intro _
  simp -implicitDefEqProofs only [evb0, evb1, evb2, evb3, evb4, evb5, evb6, evb7, evb8, evb9, ↓evZ2, ↓evZ3, ↓Int.cast_ofNat_Int, implies_true, ne_eq, or_false, false_or, or_self, gt_iff_lt, isMut, aFn, List.contains, List.elem, aBox, aField, aLoad, sub, aNil, aPick, aExt, aFld, gd, noJunk, plainOp, aBuildSlice, aBuild, aFill, aParts, seqParts, fitAll, List.range', ↓reduceIte, reduceCtorEq, Nat.reduceEqDiff, Nat.reduceAdd, Nat.reduceLeDiff, Nat.reduceMul, Nat.reduceLT, Nat.reduceBEq, Int.reduceEq, tf_S6_23]
  refine (c_newStore _).mono ?_
  rintro _ s1 ⟨c, m, rfl, hS, hQ, hc, hm⟩
  have hD := hQ.drops hc hm
  have hbad : ∀ s2, Drops s2 st → ¬ (a.valid = true ∧ b.valid = true) → (AV.tup [.fslice [], .bool false]).soft = uniAv (uniB a b) ∧ Drops s2 st := fun s2 d h => by
    refine ⟨?_, d⟩
    unfold uniB
    rw [if_neg fun h2 => h ⟨h2.1, h2.2.1⟩]
    simp only [uniAv, soft_agg, soft_tup, soft_int, soft_bool, soft_str, soft_slice, soft_fslice, soft_ptr, soft_pptr, soft_map, soft_mslice, Tm.soft, List.map_cons, List.map_nil]
  simp -implicitDefEqProofs only [evb0, evb1, evb2, evb3, evb4, evb5, evb6, evb7, evb8, evb9, ↓evZ2, ↓evZ3, ↓Int.cast_ofNat_Int, implies_true, ne_eq, or_false, false_or, or_self, gt_iff_lt, isMut, aFn, List.contains, List.elem, aBox, aField, aLoad, sub, aNil, aPick, aExt, aFld, gd, noJunk, plainOp, aBuildSlice, aBuild, aFill, aParts, seqParts, fitAll, List.range', ↓reduceIte, reduceCtorEq, Nat.reduceEqDiff, Nat.reduceAdd, Nat.reduceLeDiff, Nat.reduceMul, Nat.reduceLT, Nat.reduceBEq, Int.reduceEq, tf_S6_23]
  refine (c_impl_TermValid a _).to ?_
  simp -implicitDefEqProofs only [evb0, evb1, evb2, evb3, evb4, evb5, evb6, evb7, evb8, evb9, ↓evZ2, ↓evZ3, ↓Int.cast_ofNat_Int, implies_true, ne_eq, or_false, false_or, or_self, gt_iff_lt, isMut, aFn, List.contains, List.elem, aBox, aField, aLoad, sub, aNil, aPick, aExt, aFld, gd, noJunk, plainOp, aBuildSlice, aBuild, aFill, aParts, seqParts, fitAll, List.range', ↓reduceIte, reduceCtorEq, Nat.reduceEqDiff, Nat.reduceAdd, Nat.reduceLeDiff, Nat.reduceMul, Nat.reduceLT, Nat.reduceBEq, Int.reduceEq, tf_S6_23]
  refine opsG_split (fun h => ?_) (fun h => ?_)
  case refine_2 =>
    simp -implicitDefEqProofs only [h, evb0, evb1, evb2, evb3, evb4, evb5, evb6, evb7, evb8, evb9, ↓evZ2, ↓evZ3, ↓Int.cast_ofNat_Int, implies_true, ne_eq, or_false, false_or, or_self, gt_iff_lt, isMut, aFn, List.contains, List.elem, aBox, aField, aLoad, sub, aNil, aPick, aExt, aFld, gd, noJunk, plainOp, aBuildSlice, aBuild, aFill, aParts, seqParts, fitAll, List.range', ↓reduceIte, reduceCtorEq, Nat.reduceEqDiff, Nat.reduceAdd, Nat.reduceLeDiff, Nat.reduceMul, Nat.reduceLT, Nat.reduceBEq, Int.reduceEq, tf_S6_23]
    refine hbad _ hD ?_
    simp at h
    simp [h]
  simp -implicitDefEqProofs only [h, evb0, evb1, evb2, evb3, evb4, evb5, evb6, evb7, evb8, evb9, ↓evZ2, ↓evZ3, ↓Int.cast_ofNat_Int, implies_true, ne_eq, or_false, false_or, or_self, gt_iff_lt, isMut, aFn, List.contains, List.elem, aBox, aField, aLoad, sub, aNil, aPick, aExt, aFld, gd, noJunk, plainOp, aBuildSlice, aBuild, aFill, aParts, seqParts, fitAll, List.range', ↓reduceIte, reduceCtorEq, Nat.reduceEqDiff, Nat.reduceAdd, Nat.reduceLeDiff, Nat.reduceMul, Nat.reduceLT, Nat.reduceBEq, Int.reduceEq, tf_S6_23]
  refine (c_impl_TermValid b _).to ?_
  simp -implicitDefEqProofs only [h, evb0, evb1, evb2, evb3, evb4, evb5, evb6, evb7, evb8, evb9, ↓evZ2, ↓evZ3, ↓Int.cast_ofNat_Int, implies_true, ne_eq, or_false, false_or, or_self, gt_iff_lt, isMut, aFn, List.contains, List.elem, aBox, aField, aLoad, sub, aNil, aPick, aExt, aFld, gd, noJunk, plainOp, aBuildSlice, aBuild, aFill, aParts, seqParts, fitAll, List.range', ↓reduceIte, reduceCtorEq, Nat.reduceEqDiff, Nat.reduceAdd, Nat.reduceLeDiff, Nat.reduceMul, Nat.reduceLT, Nat.reduceBEq, Int.reduceEq, tf_S6_23]
  simp only [Bool.not_eq_false'] at h
  refine opsG_split (fun h2 => ?_) (fun h2 => ?_)
  case refine_2 =>
    simp -implicitDefEqProofs only [h2, evb0, evb1, evb2, evb3, evb4, evb5, evb6, evb7, evb8, evb9, ↓evZ2, ↓evZ3, ↓Int.cast_ofNat_Int, implies_true, ne_eq, or_false, false_or, or_self, gt_iff_lt, isMut, aFn, List.contains, List.elem, aBox, aField, aLoad, sub, aNil, aPick, aExt, aFld, gd, noJunk, plainOp, aBuildSlice, aBuild, aFill, aParts, seqParts, fitAll, List.range', ↓reduceIte, reduceCtorEq, Nat.reduceEqDiff, Nat.reduceAdd, Nat.reduceLeDiff, Nat.reduceMul, Nat.reduceLT, Nat.reduceBEq, Int.reduceEq, tf_S6_23]
    refine hbad _ hD ?_
    simp at h2
    simp [h2]
  simp -implicitDefEqProofs only [h2, evb0, evb1, evb2, evb3, evb4, evb5, evb6, evb7, evb8, evb9, ↓evZ2, ↓evZ3, ↓Int.cast_ofNat_Int, implies_true, ne_eq, or_false, false_or, or_self, gt_iff_lt, isMut, aFn, List.contains, List.elem, aBox, aField, aLoad, sub, aNil, aPick, aExt, aFld, gd, noJunk, plainOp, aBuildSlice, aBuild, aFill, aParts, seqParts, fitAll, List.range', ↓reduceIte, reduceCtorEq, Nat.reduceEqDiff, Nat.reduceAdd, Nat.reduceLeDiff, Nat.reduceMul, Nat.reduceLT, Nat.reduceBEq, Int.reduceEq, tf_S6_23]
  have hb' : b.valid = true := by simpa using h2
  obtain ⟨r, σ, tr, hU, hR⟩ := unif_of h hb'
  obtain ⟨g, hg⟩ := hU.run
  have oa := Tm.valid_okA h
  have ob := Tm.valid_okA hb'
  have hlen := nodup_V25 hU.uni.nodup hU.trV
  refine (c_unify g Sub.none a b r σ tr IsGood.none (fun n u h => (by cases h)) (Tm.okA_small a oa) (Tm.okA_small b ob) hg c m _ [] s1 hS (by simp only [List.length_nil]; omega)).mono ?_
  rintro _ s2 ⟨rfl, q', hS2, hQ2⟩
  have hD2 := (hQ.trans hS hQ2).drops hc hm
  have hcv : AllS Cv σ := fun n u hu => Tm.okA_cv u (hU.okA n u hu)
  have hsm : AllS Sm σ := fun n u hu => Tm.okA_small u (hU.okA n u hu)
  rw [uniB_eq h hb' hU hR]
  simp -implicitDefEqProofs only [h2, evb0, evb1, evb2, evb3, evb4, evb5, evb6, evb7, evb8, evb9, ↓evZ2, ↓evZ3, ↓Int.cast_ofNat_Int, implies_true, ne_eq, or_false, false_or, or_self, gt_iff_lt, isMut, aFn, List.contains, List.elem, aBox, aField, aLoad, sub, aNil, aPick, aExt, aFld, gd, noJunk, plainOp, aBuildSlice, aBuild, aFill, aParts, seqParts, fitAll, List.range', ↓reduceIte, reduceCtorEq, Nat.reduceEqDiff, Nat.reduceAdd, Nat.reduceLeDiff, Nat.reduceMul, Nat.reduceLT, Nat.reduceBEq, Int.reduceEq, tf_S6_23]
  cases r with
  | false =>
    simp -implicitDefEqProofs only [evb0, evb1, evb2, evb3, evb4, evb5, evb6, evb7, evb8, evb9, ↓evZ2, ↓evZ3, ↓Int.cast_ofNat_Int, implies_true, ne_eq, or_false, false_or, or_self, gt_iff_lt, isMut, aFn, List.contains, List.elem, aBox, aField, aLoad, sub, aNil, aPick, aExt, aFld, gd, noJunk, plainOp, aBuildSlice, aBuild, aFill, aParts, seqParts, fitAll, List.range', ↓reduceIte, reduceCtorEq, Nat.reduceEqDiff, Nat.reduceAdd, Nat.reduceLeDiff, Nat.reduceMul, Nat.reduceLT, Nat.reduceBEq, Int.reduceEq, tf_S6_23]
    exact ⟨by simp only [soft_agg, soft_tup, soft_int, soft_bool, soft_str, soft_slice, soft_fslice, soft_ptr, soft_pptr, soft_map, soft_mslice, Tm.soft, List.map_cons, List.map_nil, if_false, Bool.false_eq_true], hD2⟩
  | true =>
    simp -implicitDefEqProofs only [evb0, evb1, evb2, evb3, evb4, evb5, evb6, evb7, evb8, evb9, ↓evZ2, ↓evZ3, ↓Int.cast_ofNat_Int, implies_true, ne_eq, or_false, false_or, or_self, gt_iff_lt, isMut, aFn, List.contains, List.elem, aBox, aField, aLoad, sub, aNil, aPick, aExt, aFld, gd, noJunk, plainOp, aBuildSlice, aBuild, aFill, aParts, seqParts, fitAll, List.range', ↓reduceIte, reduceCtorEq, Nat.reduceEqDiff, Nat.reduceAdd, Nat.reduceLeDiff, Nat.reduceMul, Nat.reduceLT, Nat.reduceBEq, Int.reduceEq, tf_S6_23]
    refine (c_all hU.uni.good hcv hsm c m q' _ hS2.sub).to ?_
    unfold allAv
    split
    · simp -implicitDefEqProofs only [evb0, evb1, evb2, evb3, evb4, evb5, evb6, evb7, evb8, evb9, ↓evZ2, ↓evZ3, ↓Int.cast_ofNat_Int, implies_true, ne_eq, or_false, false_or, or_self, gt_iff_lt, isMut, aFn, List.contains, List.elem, aBox, aField, aLoad, sub, aNil, aPick, aExt, aFld, gd, noJunk, plainOp, aBuildSlice, aBuild, aFill, aParts, seqParts, fitAll, List.range', ↓reduceIte, reduceCtorEq, Nat.reduceEqDiff, Nat.reduceAdd, Nat.reduceLeDiff, Nat.reduceMul, Nat.reduceLT, Nat.reduceBEq, Int.reduceEq, tf_S6_23]
      exact ⟨by simp only [soft_agg, soft_tup, soft_int, soft_bool, soft_str, soft_slice, soft_fslice, soft_ptr, soft_pptr, soft_map, soft_mslice, Tm.soft, List.map_cons, List.map_nil, if_true], hD2⟩
    · simp -implicitDefEqProofs only [evb0, evb1, evb2, evb3, evb4, evb5, evb6, evb7, evb8, evb9, ↓evZ2, ↓evZ3, ↓Int.cast_ofNat_Int, implies_true, ne_eq, or_false, false_or, or_self, gt_iff_lt, isMut, aFn, List.contains, List.elem, aBox, aField, aLoad, sub, aNil, aPick, aExt, aFld, gd, noJunk, plainOp, aBuildSlice, aBuild, aFill, aParts, seqParts, fitAll, List.range', ↓reduceIte, reduceCtorEq, Nat.reduceEqDiff, Nat.reduceAdd, Nat.reduceLeDiff, Nat.reduceMul, Nat.reduceLT, Nat.reduceBEq, Int.reduceEq, tf_S6_23]
      exact ⟨by simp only [soft_agg, soft_tup, soft_int, soft_bool, soft_str, soft_slice, soft_fslice, soft_ptr, soft_pptr, soft_map, soft_mslice, Tm.soft, List.map_cons, List.map_nil, if_true], hD2⟩
end Go.AW

/- Lists that grow, beside a block that is held. -/
namespace Go.AW
set_option linter.unusedSimpArgs false
set_option linter.unusedVariables false
/-- A loop over the places of a list that fills a list of its own, in slot d; behind it that list is never written again. -/
theorem arun_growB {P : Program} {N : Nat} {c : Code} {Q : Exit → AF → Store → Prop} {φ : AF} {st : Store} {α σ : Type} (mt : List Nat) (keep : List Nat) (l : List α) (w d : Nat) (acc : Nat → σ → List AV) (inv : Nat → σ → Prop) (ch : Nat → σ → List (Nat × AV)) (so : Nat → σ → Store)
    (hw : ∀ i s, inv i s → ∀ e ∈ acc i s, e.isJunk = false ∧ e.width = w)
    (hok : codeOk N c = true)
    (h0 : ∃ s b, inv 0 s ∧ (acc 0 s ≠ [] → so 0 s b = none) ∧ LessL φ st (keepL φ keep ((d, accV w b (acc 0 s)) :: ch 0 s)) (accS (so 0 s) b (acc 0 s)))
    (h1 : ∀ i x s b, l[i]? = some x → i < l.length → ((i : Int) < (l.length : Int)) → l.drop i = x :: l.drop (i + 1) → inv i s → (acc i s ≠ [] → so i s b = none) →
      aCode P N mt c (loopQ (fun φ' st' => ∃ s' b', inv (i + 1) s' ∧ (acc (i + 1) s' ≠ [] → so (i + 1) s' b' = none) ∧ LessL φ' st' (keepL φ keep ((d, accV w b' (acc (i + 1) s')) :: ch (i + 1) s')) (accS (so (i + 1) s') b' (acc (i + 1) s'))) Q) (frU (keepL φ keep ((d, accV w b (acc i s)) :: ch i s))) (accS (so i s) b (acc i s)))
    (h2 : ∀ s b, ¬ ((l.length : Int) < (l.length : Int)) → inv l.length s → (acc l.length s ≠ [] → so l.length s b = none) → aCode P N mt c (loopQ (fun _ _ => False) Q) (frU (finL b (acc l.length s) (keepL φ keep ((d, accV w b (acc l.length s)) :: ch l.length s)))) (so l.length s)) : ARun P N (.loop c) Q φ st := by
  have weak : ∀ (k : AF → Store → Prop) (φ0 : AF) (st0 : Store) (k' : AF → Store → Prop), (∀ φ' st', k' φ' st' → k φ' st') →
      ARun P N c (loopQ k' Q) φ0 st0 → ARun P N c (loopQ k Q) φ0 st0 := by
    intro k φ0 st0 k' hk hr a w R
    refine wp_mono (hr a w R) ?_
    rintro e a' w' ⟨φ', st', R', T, sm, q⟩
    refine ⟨φ', st', R', T, sm, ?_⟩
    cases e with
    | normal => exact hk _ _ q
    | _ => exact q
  refine arun_loop (α := Nat × σ × Nat) (fun p => p.1 ≤ l.length ∧ inv p.1 p.2.1 ∧ (acc p.1 p.2.1 ≠ [] → so p.1 p.2.1 p.2.2 = none)) (fun p => frL (keepL φ keep ((d, accV w p.2.2 (acc p.1 p.2.1)) :: ch p.1 p.2.1))) (fun p => accS (so p.1 p.2.1) p.2.2 (acc p.1 p.2.1)) (fun p => l.length - p.1) ?_ ?_
  · obtain ⟨s, b, hs, hb, hl⟩ := h0
    exact ⟨(0, s, b), ⟨Nat.zero_le _, hs, hb⟩, hl⟩
  · rintro ⟨i, s, b⟩ ⟨hi, hs, hb⟩
    simp only at hi hs hb ⊢
    rcases Nat.lt_or_ge i l.length with hlt | hge
    · refine weak _ _ _ _ ?_ (arun_code mt hok (h1 i l[i] s b (List.getElem?_eq_getElem hlt) hlt (by omega) (List.drop_eq_getElem_cons hlt) hs hb))
      rintro φ' st' ⟨s', b', h1', h2', h3'⟩
      exact ⟨(i + 1, s', b'), by simp only; omega, ⟨by simp only; omega, h1', h2'⟩, h3'⟩
    · obtain rfl : i = l.length := by omega
      refine ARun.less (less_finL b (acc l.length s) hb (fun e he => (hw _ s hs e he).1) ⟨w, fun e he => (hw _ s hs e he).2⟩ _) ?_
      refine weak _ _ _ _ ?_ (arun_code mt hok (h2 s b (by omega) hs hb))
      exact fun _ _ h => h.elim
theorem fin_ms {b bb n w : Nat} {l : List AV} (h : l ≠ [] → bb ≠ b) : (AV.mslice bb 0 n w).fin b l = .mslice bb 0 n w := by
  unfold AV.fin
  split
  · rfl
  · rename_i hl
    have : bb ≠ b := h (by rintro rfl; simp at hl)
    simp [AV.fz, this, AV.soft]
end Go.AW


/- The reference's unification of terms. -/
namespace Go.AW
open Go.Proofs.Try
set_option linter.unusedSimpArgs false
set_option maxRecDepth 100000

theorem sumL_take_le' {α : Type} (f : α → Nat) (l : List α) (i : Nat) : sumL f (l.take i) ≤ sumL f l := by
  have := sumL_append f (l.take i) (l.drop i)
  rw [List.take_append_drop] at this
  omega
/-- What is left of the room. -/
def Full (v : Tm) (room : Nat) (st : Store) (r : AV) (st' : Store) : Prop :=
  st' = st ∧ ∃ (x : Tm) (left : Int), r = .tup [x.av, .int .i64 left] ∧ -1 ≤ left ∧ if v.nodes ≤ room then x = v ∧ left = (room : Int) - v.nodes else left < 0

theorem tf_P3_74 : (type_of% tI_2) ∧ (type_of% zI_2) ∧ (type_of% Go.Proofs.Try.underlying2) ∧ (type_of% tI_3) ∧ (type_of% zI_3) ∧ (type_of% Go.Proofs.Try.underlying3) ∧ (type_of% tI_4) ∧ (type_of% zI_4) ∧ (type_of% Go.Proofs.Try.underlying4) ∧ (type_of% tI_5) ∧ (type_of% zI_5) ∧ (type_of% Go.Proofs.Try.underlying5) ∧ (type_of% tI_6) ∧ (type_of% zI_6) ∧ (type_of% Go.Proofs.Try.underlying6) ∧ (type_of% tI_7) ∧ (type_of% zI_7) ∧ (type_of% fI_7_0) ∧ (type_of% fI_7_1) ∧ (type_of% fI_7_2) ∧ (type_of% fI_7_3) ∧ (type_of% bI_7) ∧ (type_of% tI_8) ∧ (type_of% zI_8) ∧ (type_of% fI_8_0) ∧ (type_of% fI_8_1) ∧ (type_of% fI_8_2) ∧ (type_of% fI_8_3) ∧ (type_of% bI_8) ∧ (type_of% tI_9) ∧ (type_of% zI_9) ∧ (type_of% Go.Proofs.Try.underlying9) ∧ (type_of% tI_10) ∧ (type_of% zI_10) ∧ (type_of% Go.Proofs.Try.underlying10) ∧ (type_of% tI_11) ∧ (type_of% zI_11) ∧ (type_of% Go.Proofs.Try.underlying11) ∧ (type_of% tI_12) ∧ (type_of% zI_12) ∧ (type_of% Go.Proofs.Try.underlying12) ∧ (type_of% tI_16) ∧ (type_of% zI_16) ∧ (type_of% tI_17) ∧ (type_of% zI_17) ∧ (type_of% tI_18) ∧ (type_of% zI_18) ∧ (type_of% fI_18_0) ∧ (type_of% bI_18) ∧ (type_of% tI_27) ∧ (type_of% zI_27) ∧ (type_of% eI_27) ∧ (type_of% eB_27) ∧ (type_of% eZ_27) ∧ (type_of% Go.Proofs.Try.underlying27) ∧ (type_of% tI_31) ∧ (type_of% zI_31) ∧ (type_of% fI_31_0) ∧ (type_of% bI_31) ∧ (type_of% tI_41) ∧ (type_of% zI_41) ∧ (type_of% fI_41_0) ∧ (type_of% fI_41_1) ∧ (type_of% fI_41_2) ∧ (type_of% fI_41_3) ∧ (type_of% bI_41) ∧ (type_of% tI_44) ∧ (type_of% zI_44) ∧ (type_of% eI_44) ∧ (type_of% eB_44) ∧ (type_of% eZ_44) ∧ (type_of% Go.Proofs.Try.underlying44) ∧ (type_of% tI_53) ∧ (type_of% zI_53) ∧ (type_of% fI_53_0) ∧ (type_of% fI_53_1) ∧ (type_of% bI_53) ∧ (type_of% tI_54) ∧ (type_of% zI_54) ∧ (type_of% fI_54_0) ∧ (type_of% fI_54_1) ∧ (type_of% bI_54) ∧ (type_of% tI_56) ∧ (type_of% zI_56) ∧ (type_of% eI_56) ∧ (type_of% eB_56) ∧ (type_of% eZ_56) ∧ (type_of% Go.Proofs.Try.underlying56) ∧ (type_of% tI_60) ∧ (type_of% zI_60) ∧ (type_of% eI_60) ∧ (type_of% eB_60) ∧ (type_of% eZ_60) ∧ (type_of% Go.Proofs.Try.underlying60) ∧ (type_of% tI_63) ∧ (type_of% zI_63) ∧ (type_of% fI_63_0) ∧ (type_of% fI_63_1) ∧ (type_of% bI_63) ∧ (type_of% tI_64) ∧ (type_of% zI_64) ∧ (type_of% fI_64_0) ∧ (type_of% fI_64_1) ∧ (type_of% bI_64) ∧ (type_of% tI_74) ∧ (type_of% zI_74) ∧ (type_of% fI_74_0) ∧ (type_of% fI_74_1) ∧ (type_of% fI_74_2) ∧ (type_of% fI_74_3) ∧ (type_of% fI_74_4) ∧ (type_of% fI_74_5) ∧ (type_of% bI_74) := ⟨tI_2, zI_2, Go.Proofs.Try.underlying2, tI_3, zI_3, Go.Proofs.Try.underlying3, tI_4, zI_4, Go.Proofs.Try.underlying4, tI_5, zI_5, Go.Proofs.Try.underlying5, tI_6, zI_6, Go.Proofs.Try.underlying6, tI_7, zI_7, fI_7_0, fI_7_1, fI_7_2, fI_7_3, bI_7, tI_8, zI_8, fI_8_0, fI_8_1, fI_8_2, fI_8_3, bI_8, tI_9, zI_9, Go.Proofs.Try.underlying9, tI_10, zI_10, Go.Proofs.Try.underlying10, tI_11, zI_11, Go.Proofs.Try.underlying11, tI_12, zI_12, Go.Proofs.Try.underlying12, tI_16, zI_16, tI_17, zI_17, tI_18, zI_18, fI_18_0, bI_18, tI_27, zI_27, eI_27, eB_27, eZ_27, Go.Proofs.Try.underlying27, tI_31, zI_31, fI_31_0, bI_31, tI_41, zI_41, fI_41_0, fI_41_1, fI_41_2, fI_41_3, bI_41, tI_44, zI_44, eI_44, eB_44, eZ_44, Go.Proofs.Try.underlying44, tI_53, zI_53, fI_53_0, fI_53_1, bI_53, tI_54, zI_54, fI_54_0, fI_54_1, bI_54, tI_56, zI_56, eI_56, eB_56, eZ_56, Go.Proofs.Try.underlying56, tI_60, zI_60, eI_60, eB_60, eZ_60, Go.Proofs.Try.underlying60, tI_63, zI_63, fI_63_0, fI_63_1, bI_63, tI_64, zI_64, fI_64_0, fI_64_1, bI_64, tI_74, zI_74, fI_74_0, fI_74_1, fI_74_2, fI_74_3, fI_74_4, fI_74_5, bI_74⟩
theorem c_l3Full {σ : Sub} {R : Int → Tm} {rk : Int → Nat} {B : Nat} (G : Good σ R rk B) (hok : AllS OkN σ) (bb : Nat) :
    ∀ (room : Nat) (t : Tm) (st : Store), room ≤ 120 → OkN t → ArrAt st bb σ → ACalls prog 74 [t.av, .mslice bb 0 26 4, .int .i64 (room : Int)] st (Full (t.mapv R) room st)
  | room, t, st, hr, ht, hS => by
    have IH := fun (room' : Nat) (hlt : room' < room) (x : Tm) st => c_l3Full G hok bb room' x st
    obtain ⟨f, hw⟩ := G.wk t
    generalize wk σ t = u at *
    have hokA : AllS OkA σ := fun n u hu => (hok n u hu).1
    have hsu := hw.all (p := OkN) hok ht
    have hcw := fun st (hS : ArrAt st bb σ) => c_l3Walk hokA hw ht.1 bb st hS
    obtain ⟨k, n, s, ts⟩ := u
    have hv := good_walked G hw (Tm.okA_cv _ hsu.1)
    rw [hv]
    obtain ⟨hlen, hsms⟩ := Tm.small_mk (Tm.okA_small _ hsu.1)
    have hle4 := (ownOk_kind (Tm.okA_own hsu.1).1).2
    have hkn := (Tm.okA_own hsu.1).2
    have hkk : ∀ x ∈ ts, OkN x := fun x hx => by
      refine ⟨hkn x hx, ?_⟩
      have := hsu.2
      rw [Tm.nodes_mk] at this
      have := sumL_mem (f := Tm.nodes) hx
      omega
    refine ACalls.dropS (ACalls.fin ?_)
    refine acalls_fit [1000000, 3, 8] func74 ntmps74 rfl rfl (by kernel_rfl) (by decide +kernel) (by show 3 ≤ _; decide +kernel) ?_
    intro _
    simp -implicitDefEqProofs only [setCells, evb0, evb1, evb2, evb3, evb4, evb5, evb6, evb7, evb8, evb9, ↓evZ2, ↓evZ3, ↓Int.cast_ofNat_Int, implies_true, ne_eq, or_false, false_or, or_self, gt_iff_lt, isMut, aFn, List.contains, List.elem, aBox, aField, aLoad, sub, aNil, aPick, aExt, aFld, gd, noJunk, plainOp, aBuildSlice, aBuild, aFill, aParts, seqParts, fitAll, List.range', ↓reduceIte, reduceCtorEq, Nat.reduceEqDiff, Nat.reduceAdd, Nat.reduceLeDiff, Nat.reduceMul, Nat.reduceLT, Nat.reduceBEq, Int.reduceEq, tf_P3_74]
    intro b3 h3 b6 h6
    have h63 : b6 ≠ b3 := by rintro rfl; rw [Store.upd_same] at h6; cases h6
    have hn6 : st b6 = none := by rw [Store.upd_ne st _ h63] at h6; exact h6
    have hb3 : b3 ≠ bb := by rintro rfl; rw [ArrAt, h3] at hS; cases hS
    have hb6 : b6 ≠ bb := by rintro rfl; rw [ArrAt, hn6] at hS; cases hS
    have hS' : ∀ o o', ArrAt ((st.upd b3 o).upd b6 o') bb σ := fun o o' => (hS.upd hb3).upd hb6
    have hwr : ∀ z : Int, -1 ≤ z → z ≤ 200 → IntKind.i64.wrap z = z := fun z h1 h2 => wrap64 (by omega) (by omega)
    have hw1 := hwr ((room : Int) - 1) (by omega) (by omega)
    refine cond_split (fun h => ?_) (fun h => ?_)
    · simp only [decide_eq_true_eq] at h
      obtain rfl : room = 0 := by omega
      simp -implicitDefEqProofs only [setCells, h63, h63.symm, hw1, evb0, evb1, evb2, evb3, evb4, evb5, evb6, evb7, evb8, evb9, ↓evZ2, ↓evZ3, ↓Int.cast_ofNat_Int, implies_true, ne_eq, or_false, false_or, or_self, gt_iff_lt, isMut, aFn, List.contains, List.elem, aBox, aField, aLoad, sub, aNil, aPick, aExt, aFld, gd, noJunk, plainOp, aBuildSlice, aBuild, aFill, aParts, seqParts, fitAll, List.range', ↓reduceIte, reduceCtorEq, Nat.reduceEqDiff, Nat.reduceAdd, Nat.reduceLeDiff, Nat.reduceMul, Nat.reduceLT, Nat.reduceBEq, Int.reduceEq, tf_P3_74]
      refine ⟨0, [], _, rfl, by simp, by simp, ⟨4, by simp⟩, st, (fun x => by by_cases e3 : x = b3 <;> by_cases e6 : x = b6 <;> simp_all [Store.upd]), rfl, Tm.zero, -1, ?_, Int.le_refl _, ?_⟩
      · simp only [Tm.zero, Tm.av_mk, fin_agg, fin_tup, fin_int, fin_bool, fin_str, fin_slice, fin_fslice, fin_pptr, fin_ptr, fin_func, fin_map, fin_undef, fin_accV, tm_fin, List.map_cons, List.map_nil]
      · rw [if_neg (by rw [Tm.nodes_mk]; omega)]; decide
    simp only [decide_eq_false_iff_not] at h
    simp -implicitDefEqProofs only [setCells, h63, h63.symm, hw1, evb0, evb1, evb2, evb3, evb4, evb5, evb6, evb7, evb8, evb9, ↓evZ2, ↓evZ3, ↓Int.cast_ofNat_Int, implies_true, ne_eq, or_false, false_or, or_self, gt_iff_lt, isMut, aFn, List.contains, List.elem, aBox, aField, aLoad, sub, aNil, aPick, aExt, aFld, gd, noJunk, plainOp, aBuildSlice, aBuild, aFill, aParts, seqParts, fitAll, List.range', ↓reduceIte, reduceCtorEq, Nat.reduceEqDiff, Nat.reduceAdd, Nat.reduceLeDiff, Nat.reduceMul, Nat.reduceLT, Nat.reduceBEq, Int.reduceEq, tf_P3_74]
    refine (hcw _ (hS' _ _)).to ?_
    simp only [Tm.av_mk]
    simp -implicitDefEqProofs only [setCells, h63, h63.symm, hw1, evb0, evb1, evb2, evb3, evb4, evb5, evb6, evb7, evb8, evb9, ↓evZ2, ↓evZ3, ↓Int.cast_ofNat_Int, implies_true, ne_eq, or_false, false_or, or_self, gt_iff_lt, isMut, aFn, List.contains, List.elem, aBox, aField, aLoad, sub, aNil, aPick, aExt, aFld, gd, noJunk, plainOp, aBuildSlice, aBuild, aFill, aParts, seqParts, fitAll, List.range', ↓reduceIte, reduceCtorEq, Nat.reduceEqDiff, Nat.reduceAdd, Nat.reduceLeDiff, Nat.reduceMul, Nat.reduceLT, Nat.reduceBEq, Int.reduceEq, tf_P3_74]
    intro b8 h8
    have h83 : b8 ≠ b3 := by rintro rfl; simp [Store.upd, h63.symm] at h8
    have h86 : b8 ≠ b6 := by rintro rfl; simp [Store.upd, h63] at h8
    have hn8 : st b8 = none := by rw [Store.upd_ne _ _ h83, Store.upd_ne _ _ h86, Store.upd_ne _ _ h83] at h8; exact h8
    have hb8 : b8 ≠ bb := by rintro rfl; rw [ArrAt, hn8] at hS; cases hS
    rw [Store.upd_mid h63]
    have hWS : ArrAt ((st.upd b6 (.cells [.int .i64 0, .int .i64 0, .str ⟨#[]⟩, .fslice []])).upd b3 (.cells [.int .i64 k, .int .i64 n, .str s, .slice (ts.map Tm.av)])) bb σ := (hS.upd hb6).upd hb3
    have hW6 : ((st.upd b6 (.cells [.int .i64 0, .int .i64 0, .str ⟨#[]⟩, .fslice []])).upd b3 (.cells [.int .i64 k, .int .i64 n, .str s, .slice (ts.map Tm.av)])) b6 = some (.cells [.int .i64 0, .int .i64 0, .str ⟨#[]⟩, .fslice []]) := by rw [Store.upd_ne _ _ h63, Store.upd_same]
    have hW3 : ((st.upd b6 (.cells [.int .i64 0, .int .i64 0, .str ⟨#[]⟩, .fslice []])).upd b3 (.cells [.int .i64 k, .int .i64 n, .str s, .slice (ts.map Tm.av)])) b3 = some (.cells [.int .i64 k, .int .i64 n, .str s, .slice (ts.map Tm.av)]) := Store.upd_same _ _ _
    have hWd : ∀ Y Z, Drops ((((st.upd b6 (.cells [.int .i64 0, .int .i64 0, .str ⟨#[]⟩, .fslice []])).upd b3 (.cells [.int .i64 k, .int .i64 n, .str s, .slice (ts.map Tm.av)])).upd b8 Z).upd b6 Y) st := fun Y Z x => by
      by_cases e3 : x = b3 <;> by_cases e6 : x = b6 <;> by_cases e8 : x = b8 <;> simp_all [Store.upd]
    generalize ((st.upd b6 (.cells [.int .i64 0, .int .i64 0, .str ⟨#[]⟩, .fslice []])).upd b3 (.cells [.int .i64 k, .int .i64 n, .str s, .slice (ts.map Tm.av)])) = W at *
    have hsum : (Tm.mk k n s (ts.map (Tm.mapv R))).nodes = 1 + sumL Tm.nodes (ts.map (Tm.mapv R)) := Tm.nodes_mk _ _ _ _
    refine arun_each (σ := Nat × List Tm × Int) [1000000, 3, 8] [1, 3, 6, 7, 8] ts
      (fun i p => (p.2.1.map Tm.av ≠ [] → (W.upd b8 (.cells ([.int .i64 k, .int .i64 n, .str s] ++ [accV 4 p.1 (p.2.1.map Tm.av)]))) p.1 = none) ∧ p.2.1.length = i ∧ -1 ≤ p.2.2 ∧
        (0 ≤ p.2.2 → p.2.1 = (ts.take i).map (Tm.mapv R) ∧ p.2.2 = (room : Int) - 1 - sumL Tm.nodes p.2.1) ∧ (p.2.2 < 0 → room < 1 + sumL Tm.nodes (ts.map (Tm.mapv R))))
      (fun i p => [(9, .int .i64 p.2.2), (10, .int .i64 i)])
      (fun i p => kidS W b8 p.1 [.int .i64 k, .int .i64 n, .str s] (p.2.1.map Tm.av)) (by decide +kernel)
      ⟨(0, [], (room : Int) - 1), ⟨fun h => absurd rfl h, rfl, by simp only; omega, fun _ => ⟨by simp, by simp [sumL]⟩, fun h => by simp only at h; omega⟩, LessL.mk (by simp -implicitDefEqProofs only [setCells, h63, h63.symm, h83, h83.symm, h86, h86.symm, hw1, List.length_map, evb0, evb1, evb2, evb3, evb4, evb5, evb6, evb7, evb8, evb9, ↓evZ2, ↓evZ3, ↓Int.cast_ofNat_Int, implies_true, ne_eq, or_false, false_or, or_self, gt_iff_lt, isMut, aFn, List.contains, List.elem, aBox, aField, aLoad, sub, aNil, aPick, aExt, aFld, gd, noJunk, plainOp, aBuildSlice, aBuild, aFill, aParts, seqParts, fitAll, List.range', ↓reduceIte, reduceCtorEq, Nat.reduceEqDiff, Nat.reduceAdd, Nat.reduceLeDiff, Nat.reduceMul, Nat.reduceLT, Nat.reduceBEq, Int.reduceEq, tf_P3_74])⟩ (fun i x p hx hlt hlt' hdr' hinv => ?_) (fun p hge hinv => ?_)
    · obtain ⟨b, acc, left⟩ := p
      obtain ⟨i1, i2, i3, i4, i5⟩ := hinv
      simp only at i1 i2 i3 i4 i5
      have h3o := kidS_ne i1 (x := b3) (by rw [hW3]; simp) h83.symm
      rw [hW3] at h3o
      simp -implicitDefEqProofs only [hlt', decide_true, beq_self_eq_true, setCells, h63, h63.symm, h83, h83.symm, h86, h86.symm, hw1, List.length_map, h3o, evb0, evb1, evb2, evb3, evb4, evb5, evb6, evb7, evb8, evb9, ↓evZ2, ↓evZ3, ↓Int.cast_ofNat_Int, implies_true, ne_eq, or_false, false_or, or_self, gt_iff_lt, isMut, aFn, List.contains, List.elem, aBox, aField, aLoad, sub, aNil, aPick, aExt, aFld, gd, noJunk, plainOp, aBuildSlice, aBuild, aFill, aParts, seqParts, fitAll, List.range', ↓reduceIte, reduceCtorEq, Nat.reduceEqDiff, Nat.reduceAdd, Nat.reduceLeDiff, Nat.reduceMul, Nat.reduceLT, Nat.reduceBEq, Int.reduceEq, tf_P3_74]
      refine cond_split (fun h9 => ?_) (fun h9 => ?_)
      case refine_2 =>
        simp only [decide_eq_false_iff_not] at h9
        have hbo := kidS_c i1
        have h6o := kidS_ne i1 (x := b6) (by rw [hW6]; simp) h86.symm
        rw [hW6] at h6o
        simp -implicitDefEqProofs only [setCells, hbo, h6o, accV_store, evb0, evb1, evb2, evb3, evb4, evb5, evb6, evb7, evb8, evb9, ↓evZ2, ↓evZ3, ↓Int.cast_ofNat_Int, implies_true, ne_eq, or_false, false_or, or_self, gt_iff_lt, isMut, aFn, List.contains, List.elem, aBox, aField, aLoad, sub, aNil, aPick, aExt, aFld, gd, noJunk, plainOp, aBuildSlice, aBuild, aFill, aParts, seqParts, fitAll, List.range', ↓reduceIte, reduceCtorEq, Nat.reduceEqDiff, Nat.reduceAdd, Nat.reduceLeDiff, Nat.reduceMul, Nat.reduceLT, Nat.reduceBEq, Int.reduceEq, tf_P3_74]
        obtain ⟨g5, g6⟩ := kidS_upd (o := .cells [.int .i64 k, .int .i64 n, .str s, accV 4 b (acc.map Tm.av)]) i1 (show W b6 ≠ none by rw [hW6]; simp) h86.symm
        refine ⟨b, _, _, g5, g6, tm_junk _, ⟨4, tm_widths _⟩, st, hWd _ _, rfl, .mk k n s acc, left, ?_, i3, ?_⟩
        · simp only [fin_tup, fin_agg, List.map_cons, List.map_nil, fin_int, fin_str, accV_fin, Tm.av_mk]
        · rw [hsum]
          skip
          rw [if_neg (by have := i5 (by omega); omega)]
          omega
      simp only [decide_eq_true_eq] at h9
      obtain ⟨e1, e2⟩ := i4 h9
      have hmem := List.mem_of_getElem? hx
      have hsl := sumL_take_le' Tm.nodes (ts.map (Tm.mapv R)) (i + 1)
      rw [← List.map_take, List.take_add_one, hx] at hsl
      simp only [Option.toList_some, List.map_append, List.map_cons, List.map_nil, sumL_append, sumL, ← e1] at hsl
      obtain ⟨room', rfl⟩ : ∃ r : Nat, left = r := ⟨left.toNat, by omega⟩
      have hlen' : (acc.map Tm.av).length = i := by rw [List.length_map, i2]
      have hw := wrap64 (n := (i : Int) + 1) (by omega) (by omega)
      have hsS : ArrAt (kidS W b8 b [.int .i64 k, .int .i64 n, .str s] (acc.map Tm.av)) bb σ := by
        unfold ArrAt
        rw [kidS_ne i1 (by rw [hWS]; simp) hb8.symm]
        exact hWS
      have hbo := kidS_c i1
      simp -implicitDefEqProofs only [setCells, hdr', List.length_map, h3o, ev_at (av := Tm.av) eI_27 hx (Tm.av_width x), Tm.av_agg, Tm.av_width, Tm.av_store, Tm.av_junk, hbo, accV_agg, accV_width, evb0, evb1, evb2, evb3, evb4, evb5, evb6, evb7, evb8, evb9, ↓evZ2, ↓evZ3, ↓Int.cast_ofNat_Int, implies_true, ne_eq, or_false, false_or, or_self, gt_iff_lt, isMut, aFn, List.contains, List.elem, aBox, aField, aLoad, sub, aNil, aPick, aExt, aFld, gd, noJunk, plainOp, aBuildSlice, aBuild, aFill, aParts, seqParts, fitAll, List.range', ↓reduceIte, reduceCtorEq, Nat.reduceEqDiff, Nat.reduceAdd, Nat.reduceLeDiff, Nat.reduceMul, Nat.reduceLT, Nat.reduceBEq, Int.reduceEq, tf_P3_74]
      refine (IH room' (by omega) x _ (by omega) (hkk x hmem) hsS).mono ?_
      rintro _ _ ⟨rfl, y, left', rfl, hl1, hl2⟩
      simp -implicitDefEqProofs only [setCells, hdr', List.length_map, h3o, ev_at (av := Tm.av) eI_27 hx (Tm.av_width x), Tm.av_agg, Tm.av_width, Tm.av_store, Tm.av_junk, hbo, accV_agg, accV_width, evb0, evb1, evb2, evb3, evb4, evb5, evb6, evb7, evb8, evb9, ↓evZ2, ↓evZ3, ↓Int.cast_ofNat_Int, implies_true, ne_eq, or_false, false_or, or_self, gt_iff_lt, isMut, aFn, List.contains, List.elem, aBox, aField, aLoad, sub, aNil, aPick, aExt, aFld, gd, noJunk, plainOp, aBuildSlice, aBuild, aFill, aParts, seqParts, fitAll, List.range', ↓reduceIte, reduceCtorEq, Nat.reduceEqDiff, Nat.reduceAdd, Nat.reduceLeDiff, Nat.reduceMul, Nat.reduceLT, Nat.reduceBEq, Int.reduceEq, tf_P3_74]
      refine acc_append eI_27 eB_27 eZ_27 rfl rfl (by intro e he; simp only [List.mem_cons, List.not_mem_nil, or_false] at he; subst he; exact ⟨Tm.av_width _, Tm.av_store _⟩) (tm_widths _) i1 (by simp only [hlen', List.length_cons, List.length_nil]; omega) (by simp only [hlen', List.length_cons, List.length_nil]; omega) (fun b' hb' => ?_)
      rw [show acc.map Tm.av ++ [y.av] = (acc ++ [y]).map Tm.av by simp] at hb' ⊢
      obtain ⟨g1, g2, g3⟩ := kidS_set hb'
      simp only [List.cons_append, List.nil_append] at g1 g3
      simp -implicitDefEqProofs only [g3, accV_cells, accV_store, Nat.le_refl, g1, hw, setCells, hdr', List.length_map, h3o, ev_at (av := Tm.av) eI_27 hx (Tm.av_width x), Tm.av_agg, Tm.av_width, Tm.av_store, Tm.av_junk, hbo, accV_agg, accV_width, evb0, evb1, evb2, evb3, evb4, evb5, evb6, evb7, evb8, evb9, ↓evZ2, ↓evZ3, ↓Int.cast_ofNat_Int, implies_true, ne_eq, or_false, false_or, or_self, gt_iff_lt, isMut, aFn, List.contains, List.elem, aBox, aField, aLoad, sub, aNil, aPick, aExt, aFld, gd, noJunk, plainOp, aBuildSlice, aBuild, aFill, aParts, seqParts, fitAll, List.range', ↓reduceIte, reduceCtorEq, Nat.reduceEqDiff, Nat.reduceAdd, Nat.reduceLeDiff, Nat.reduceMul, Nat.reduceLT, Nat.reduceBEq, Int.reduceEq, tf_P3_74]
      refine ⟨(b', acc ++ [y], left'), ⟨g2, by simp [i2], hl1, fun h => ?_, fun h => ?_⟩, LessL.mk (by simp -implicitDefEqProofs only [setCells, hdr', List.length_map, h3o, ev_at (av := Tm.av) eI_27 hx (Tm.av_width x), Tm.av_agg, Tm.av_width, Tm.av_store, Tm.av_junk, hbo, accV_agg, accV_width, evb0, evb1, evb2, evb3, evb4, evb5, evb6, evb7, evb8, evb9, ↓evZ2, ↓evZ3, ↓Int.cast_ofNat_Int, implies_true, ne_eq, or_false, false_or, or_self, gt_iff_lt, isMut, aFn, List.contains, List.elem, aBox, aField, aLoad, sub, aNil, aPick, aExt, aFld, gd, noJunk, plainOp, aBuildSlice, aBuild, aFill, aParts, seqParts, fitAll, List.range', ↓reduceIte, reduceCtorEq, Nat.reduceEqDiff, Nat.reduceAdd, Nat.reduceLeDiff, Nat.reduceMul, Nat.reduceLT, Nat.reduceBEq, Int.reduceEq, tf_P3_74])⟩
      · simp only at h
        split at hl2
        · obtain ⟨rfl, hl3⟩ := hl2
          refine ⟨by rw [List.take_add_one, hx]; simp [e1], ?_⟩
          simp only [sumL_append, sumL]
          omega
        · omega
      · simp only at h
        split at hl2
        · omega
        · omega
    · obtain ⟨b, acc, left⟩ := p
      obtain ⟨i1, i2, i3, i4, i5⟩ := hinv
      simp only at i1 i2 i3 i4 i5
      rw [List.take_length] at i4
      have h3o := kidS_ne i1 (x := b3) (by rw [hW3]; simp) h83.symm
      rw [hW3] at h3o
      simp -implicitDefEqProofs only [hge, setCells, h63, h63.symm, h83, h83.symm, h86, h86.symm, hw1, List.length_map, h3o, evb0, evb1, evb2, evb3, evb4, evb5, evb6, evb7, evb8, evb9, ↓evZ2, ↓evZ3, ↓Int.cast_ofNat_Int, implies_true, ne_eq, or_false, false_or, or_self, gt_iff_lt, isMut, aFn, List.contains, List.elem, aBox, aField, aLoad, sub, aNil, aPick, aExt, aFld, gd, noJunk, plainOp, aBuildSlice, aBuild, aFill, aParts, seqParts, fitAll, List.range', ↓reduceIte, reduceCtorEq, Nat.reduceEqDiff, Nat.reduceAdd, Nat.reduceLeDiff, Nat.reduceMul, Nat.reduceLT, Nat.reduceBEq, Int.reduceEq, tf_P3_74]
      have hbo := kidS_c i1
      have h6o := kidS_ne i1 (x := b6) (by rw [hW6]; simp) h86.symm
      rw [hW6] at h6o
      simp -implicitDefEqProofs only [setCells, hbo, h6o, accV_store, evb0, evb1, evb2, evb3, evb4, evb5, evb6, evb7, evb8, evb9, ↓evZ2, ↓evZ3, ↓Int.cast_ofNat_Int, implies_true, ne_eq, or_false, false_or, or_self, gt_iff_lt, isMut, aFn, List.contains, List.elem, aBox, aField, aLoad, sub, aNil, aPick, aExt, aFld, gd, noJunk, plainOp, aBuildSlice, aBuild, aFill, aParts, seqParts, fitAll, List.range', ↓reduceIte, reduceCtorEq, Nat.reduceEqDiff, Nat.reduceAdd, Nat.reduceLeDiff, Nat.reduceMul, Nat.reduceLT, Nat.reduceBEq, Int.reduceEq, tf_P3_74]
      obtain ⟨g5, g6⟩ := kidS_upd (o := .cells [.int .i64 k, .int .i64 n, .str s, accV 4 b (acc.map Tm.av)]) i1 (show W b6 ≠ none by rw [hW6]; simp) h86.symm
      refine ⟨b, _, _, g5, g6, tm_junk _, ⟨4, tm_widths _⟩, st, hWd _ _, rfl, .mk k n s acc, left, ?_, i3, ?_⟩
      · simp only [fin_tup, fin_agg, List.map_cons, List.map_nil, fin_int, fin_str, accV_fin, Tm.av_mk]
      · rw [hsum]
        skip
        rcases Int.lt_or_le left 0 with h9 | h9
        · rw [if_neg (by have := i5 h9; omega)]; exact h9
        · obtain ⟨e1, e2⟩ := i4 h9
          rw [← e1] at i5 ⊢
          rw [if_pos (by omega)]
          exact ⟨rfl, by omega⟩
termination_by room => room
decreasing_by exact hlt

theorem tf_P3_24 : (type_of% tI_2) ∧ (type_of% zI_2) ∧ (type_of% Go.Proofs.Try.underlying2) ∧ (type_of% tI_3) ∧ (type_of% zI_3) ∧ (type_of% Go.Proofs.Try.underlying3) ∧ (type_of% tI_4) ∧ (type_of% zI_4) ∧ (type_of% Go.Proofs.Try.underlying4) ∧ (type_of% tI_5) ∧ (type_of% zI_5) ∧ (type_of% Go.Proofs.Try.underlying5) ∧ (type_of% tI_6) ∧ (type_of% zI_6) ∧ (type_of% Go.Proofs.Try.underlying6) ∧ (type_of% tI_7) ∧ (type_of% zI_7) ∧ (type_of% fI_7_0) ∧ (type_of% fI_7_1) ∧ (type_of% fI_7_2) ∧ (type_of% fI_7_3) ∧ (type_of% bI_7) ∧ (type_of% tI_8) ∧ (type_of% zI_8) ∧ (type_of% fI_8_0) ∧ (type_of% fI_8_1) ∧ (type_of% fI_8_2) ∧ (type_of% fI_8_3) ∧ (type_of% bI_8) ∧ (type_of% tI_9) ∧ (type_of% zI_9) ∧ (type_of% Go.Proofs.Try.underlying9) ∧ (type_of% tI_10) ∧ (type_of% zI_10) ∧ (type_of% Go.Proofs.Try.underlying10) ∧ (type_of% tI_11) ∧ (type_of% zI_11) ∧ (type_of% Go.Proofs.Try.underlying11) ∧ (type_of% tI_12) ∧ (type_of% zI_12) ∧ (type_of% Go.Proofs.Try.underlying12) ∧ (type_of% tI_13) ∧ (type_of% zI_13) ∧ (type_of% fI_13_0) ∧ (type_of% fI_13_1) ∧ (type_of% bI_13) ∧ (type_of% tI_14) ∧ (type_of% zI_14) ∧ (type_of% fI_14_0) ∧ (type_of% fI_14_1) ∧ (type_of% bI_14) ∧ (type_of% tI_15) ∧ (type_of% zI_15) ∧ (type_of% tI_16) ∧ (type_of% zI_16) ∧ (type_of% tI_17) ∧ (type_of% zI_17) ∧ (type_of% tI_18) ∧ (type_of% zI_18) ∧ (type_of% fI_18_0) ∧ (type_of% bI_18) ∧ (type_of% tI_23) ∧ (type_of% zI_23) ∧ (type_of% fI_23_0) ∧ (type_of% bI_23) ∧ (type_of% tI_24) ∧ (type_of% zI_24) ∧ (type_of% fI_24_0) ∧ (type_of% bI_24) ∧ (type_of% tI_27) ∧ (type_of% zI_27) ∧ (type_of% eI_27) ∧ (type_of% eB_27) ∧ (type_of% eZ_27) ∧ (type_of% Go.Proofs.Try.underlying27) ∧ (type_of% tI_31) ∧ (type_of% zI_31) ∧ (type_of% fI_31_0) ∧ (type_of% bI_31) ∧ (type_of% tI_32) ∧ (type_of% zI_32) ∧ (type_of% fI_32_0) ∧ (type_of% bI_32) ∧ (type_of% tI_41) ∧ (type_of% zI_41) ∧ (type_of% fI_41_0) ∧ (type_of% fI_41_1) ∧ (type_of% fI_41_2) ∧ (type_of% fI_41_3) ∧ (type_of% bI_41) ∧ (type_of% tI_44) ∧ (type_of% zI_44) ∧ (type_of% eI_44) ∧ (type_of% eB_44) ∧ (type_of% eZ_44) ∧ (type_of% Go.Proofs.Try.underlying44) ∧ (type_of% tI_54) ∧ (type_of% zI_54) ∧ (type_of% fI_54_0) ∧ (type_of% fI_54_1) ∧ (type_of% bI_54) ∧ (type_of% tI_63) ∧ (type_of% zI_63) ∧ (type_of% fI_63_0) ∧ (type_of% fI_63_1) ∧ (type_of% bI_63) ∧ (type_of% tI_64) ∧ (type_of% zI_64) ∧ (type_of% fI_64_0) ∧ (type_of% fI_64_1) ∧ (type_of% bI_64) ∧ (type_of% tI_73) ∧ (type_of% zI_73) ∧ (type_of% eI_73) ∧ (type_of% eB_73) ∧ (type_of% eZ_73) ∧ (type_of% Go.Proofs.Try.underlying73) ∧ (type_of% tI_74) ∧ (type_of% zI_74) ∧ (type_of% fI_74_0) ∧ (type_of% fI_74_1) ∧ (type_of% fI_74_2) ∧ (type_of% fI_74_3) ∧ (type_of% fI_74_4) ∧ (type_of% fI_74_5) ∧ (type_of% bI_74) ∧ (type_of% tI_120) ∧ (type_of% zI_120) ∧ (type_of% fI_120_0) ∧ (type_of% fI_120_1) ∧ (type_of% fI_120_2) ∧ (type_of% fI_120_3) ∧ (type_of% fI_120_4) ∧ (type_of% fI_120_5) ∧ (type_of% fI_120_6) ∧ (type_of% bI_120) := ⟨tI_2, zI_2, Go.Proofs.Try.underlying2, tI_3, zI_3, Go.Proofs.Try.underlying3, tI_4, zI_4, Go.Proofs.Try.underlying4, tI_5, zI_5, Go.Proofs.Try.underlying5, tI_6, zI_6, Go.Proofs.Try.underlying6, tI_7, zI_7, fI_7_0, fI_7_1, fI_7_2, fI_7_3, bI_7, tI_8, zI_8, fI_8_0, fI_8_1, fI_8_2, fI_8_3, bI_8, tI_9, zI_9, Go.Proofs.Try.underlying9, tI_10, zI_10, Go.Proofs.Try.underlying10, tI_11, zI_11, Go.Proofs.Try.underlying11, tI_12, zI_12, Go.Proofs.Try.underlying12, tI_13, zI_13, fI_13_0, fI_13_1, bI_13, tI_14, zI_14, fI_14_0, fI_14_1, bI_14, tI_15, zI_15, tI_16, zI_16, tI_17, zI_17, tI_18, zI_18, fI_18_0, bI_18, tI_23, zI_23, fI_23_0, bI_23, tI_24, zI_24, fI_24_0, bI_24, tI_27, zI_27, eI_27, eB_27, eZ_27, Go.Proofs.Try.underlying27, tI_31, zI_31, fI_31_0, bI_31, tI_32, zI_32, fI_32_0, bI_32, tI_41, zI_41, fI_41_0, fI_41_1, fI_41_2, fI_41_3, bI_41, tI_44, zI_44, eI_44, eB_44, eZ_44, Go.Proofs.Try.underlying44, tI_54, zI_54, fI_54_0, fI_54_1, bI_54, tI_63, zI_63, fI_63_0, fI_63_1, bI_63, tI_64, zI_64, fI_64_0, fI_64_1, bI_64, tI_73, zI_73, eI_73, eB_73, eZ_73, Go.Proofs.Try.underlying73, tI_74, zI_74, fI_74_0, fI_74_1, fI_74_2, fI_74_3, fI_74_4, fI_74_5, bI_74, tI_120, zI_120, fI_120_0, fI_120_1, fI_120_2, fI_120_3, fI_120_4, fI_120_5, fI_120_6, bI_120⟩
theorem c_spec_UnifyTerms (a b : Tm) (st : Store) : ACalls prog 24 [a.av, b.av] st (fun r st' => r = uniAv (uniB a b) ∧ st' = st) := by
  refine ACalls.done ?_
  refine acalls_fit [1000000] func24 ntmps24 rfl rfl (by kernel_rfl) (by decide +kernel) (by show 2 ≤ _; decide +kernel) ?_
  intro _
  simp -implicitDefEqProofs only [evb0, evb1, evb2, evb3, evb4, evb5, evb6, evb7, evb8, evb9, ↓evZ2, ↓evZ3, ↓Int.cast_ofNat_Int, implies_true, ne_eq, or_false, false_or, or_self, gt_iff_lt, isMut, aFn, List.contains, List.elem, aBox, aField, aLoad, sub, aNil, aPick, aExt, aFld, gd, noJunk, plainOp, aBuildSlice, aBuild, aFill, aParts, seqParts, fitAll, List.range', ↓reduceIte, reduceCtorEq, Nat.reduceEqDiff, Nat.reduceAdd, Nat.reduceLeDiff, Nat.reduceMul, Nat.reduceLT, Nat.reduceBEq, Int.reduceEq, tf_P3_24]
  have hbad : ∀ s2, Drops s2 st → ¬ (a.valid = true ∧ b.valid = true) → (AV.tup [.fslice [], .bool false]).soft = uniAv (uniB a b) ∧ Drops s2 st := fun s2 d h => by
    refine ⟨?_, d⟩
    unfold uniB
    rw [if_neg fun h2 => h ⟨h2.1, h2.2.1⟩]
    simp only [uniAv, soft_agg, soft_tup, soft_int, soft_bool, soft_str, soft_slice, soft_fslice, soft_ptr, soft_pptr, soft_map, soft_mslice, Tm.soft, List.map_cons, List.map_nil]
  refine (c_spec_TermValid a _).to ?_
  simp -implicitDefEqProofs only [evb0, evb1, evb2, evb3, evb4, evb5, evb6, evb7, evb8, evb9, ↓evZ2, ↓evZ3, ↓Int.cast_ofNat_Int, implies_true, ne_eq, or_false, false_or, or_self, gt_iff_lt, isMut, aFn, List.contains, List.elem, aBox, aField, aLoad, sub, aNil, aPick, aExt, aFld, gd, noJunk, plainOp, aBuildSlice, aBuild, aFill, aParts, seqParts, fitAll, List.range', ↓reduceIte, reduceCtorEq, Nat.reduceEqDiff, Nat.reduceAdd, Nat.reduceLeDiff, Nat.reduceMul, Nat.reduceLT, Nat.reduceBEq, Int.reduceEq, tf_P3_24]
  refine opsG_split (fun h => ?_) (fun h => ?_)
  case refine_2 =>
    simp -implicitDefEqProofs only [h, evb0, evb1, evb2, evb3, evb4, evb5, evb6, evb7, evb8, evb9, ↓evZ2, ↓evZ3, ↓Int.cast_ofNat_Int, implies_true, ne_eq, or_false, false_or, or_self, gt_iff_lt, isMut, aFn, List.contains, List.elem, aBox, aField, aLoad, sub, aNil, aPick, aExt, aFld, gd, noJunk, plainOp, aBuildSlice, aBuild, aFill, aParts, seqParts, fitAll, List.range', ↓reduceIte, reduceCtorEq, Nat.reduceEqDiff, Nat.reduceAdd, Nat.reduceLeDiff, Nat.reduceMul, Nat.reduceLT, Nat.reduceBEq, Int.reduceEq, tf_P3_24]
    refine hbad _ (Drops.refl _) ?_
    simp at h
    simp [h]
  simp only [Bool.not_eq_false'] at h
  simp -implicitDefEqProofs only [h, evb0, evb1, evb2, evb3, evb4, evb5, evb6, evb7, evb8, evb9, ↓evZ2, ↓evZ3, ↓Int.cast_ofNat_Int, implies_true, ne_eq, or_false, false_or, or_self, gt_iff_lt, isMut, aFn, List.contains, List.elem, aBox, aField, aLoad, sub, aNil, aPick, aExt, aFld, gd, noJunk, plainOp, aBuildSlice, aBuild, aFill, aParts, seqParts, fitAll, List.range', ↓reduceIte, reduceCtorEq, Nat.reduceEqDiff, Nat.reduceAdd, Nat.reduceLeDiff, Nat.reduceMul, Nat.reduceLT, Nat.reduceBEq, Int.reduceEq, tf_P3_24]
  refine (c_spec_TermValid b _).to ?_
  simp -implicitDefEqProofs only [h, evb0, evb1, evb2, evb3, evb4, evb5, evb6, evb7, evb8, evb9, ↓evZ2, ↓evZ3, ↓Int.cast_ofNat_Int, implies_true, ne_eq, or_false, false_or, or_self, gt_iff_lt, isMut, aFn, List.contains, List.elem, aBox, aField, aLoad, sub, aNil, aPick, aExt, aFld, gd, noJunk, plainOp, aBuildSlice, aBuild, aFill, aParts, seqParts, fitAll, List.range', ↓reduceIte, reduceCtorEq, Nat.reduceEqDiff, Nat.reduceAdd, Nat.reduceLeDiff, Nat.reduceMul, Nat.reduceLT, Nat.reduceBEq, Int.reduceEq, tf_P3_24]
  refine cond_split (fun h2 => ?_) (fun h2 => ?_)
  · simp -implicitDefEqProofs only [evb0, evb1, evb2, evb3, evb4, evb5, evb6, evb7, evb8, evb9, ↓evZ2, ↓evZ3, ↓Int.cast_ofNat_Int, implies_true, ne_eq, or_false, false_or, or_self, gt_iff_lt, isMut, aFn, List.contains, List.elem, aBox, aField, aLoad, sub, aNil, aPick, aExt, aFld, gd, noJunk, plainOp, aBuildSlice, aBuild, aFill, aParts, seqParts, fitAll, List.range', ↓reduceIte, reduceCtorEq, Nat.reduceEqDiff, Nat.reduceAdd, Nat.reduceLeDiff, Nat.reduceMul, Nat.reduceLT, Nat.reduceBEq, Int.reduceEq, tf_P3_24]
    refine hbad _ (Drops.refl _) ?_
    simp at h2
    simp [h2]
  have hb' : b.valid = true := by simpa using h2
  simp -implicitDefEqProofs only [aMakeSlice, evb0, evb1, evb2, evb3, evb4, evb5, evb6, evb7, evb8, evb9, ↓evZ2, ↓evZ3, ↓Int.cast_ofNat_Int, implies_true, ne_eq, or_false, false_or, or_self, gt_iff_lt, isMut, aFn, List.contains, List.elem, aBox, aField, aLoad, sub, aNil, aPick, aExt, aFld, gd, noJunk, plainOp, aBuildSlice, aBuild, aFill, aParts, seqParts, fitAll, List.range', ↓reduceIte, reduceCtorEq, Nat.reduceEqDiff, Nat.reduceAdd, Nat.reduceLeDiff, Nat.reduceMul, Nat.reduceLT, Nat.reduceBEq, Int.reduceEq, tf_P3_24]
  refine ⟨by omega, by omega, by omega, fun bb hbb => ?_⟩
  rw [show Int.toNat 26 = 26 from rfl, madeAV_eq _ (by simp)]
  have hA0 : ArrAt (st.upd bb (.cells (List.replicate 26 [AV.int .i64 0, .int .i64 0, .str ⟨#[]⟩, .fslice []]).flatten)) bb Sub.none := by
    unfold ArrAt
    rw [Store.upd_same, ← arrS_none]
    rfl
  have hD0 : Drops (st.upd bb (.cells (List.replicate 26 [AV.int .i64 0, .int .i64 0, .str ⟨#[]⟩, .fslice []]).flatten)) st := (Drops.refl _).upd hbb
  generalize st.upd bb (.cells (List.replicate 26 [AV.int .i64 0, .int .i64 0, .str ⟨#[]⟩, .fslice []]).flatten) = s0 at *
  obtain ⟨r, σ, tr, hU, hR⟩ := unif_of h hb'
  obtain ⟨g, hg⟩ := hU.run
  have oa : OkN a := ⟨Tm.valid_okA h, Tm.valid_nodes h⟩
  have ob : OkN b := ⟨Tm.valid_okA hb', Tm.valid_nodes hb'⟩
  have hno : AllS OkN Sub.none := fun n u h => (by cases h)
  have hok := (uni_all okN_kids g).1 Sub.none a b r σ tr IsGood.none hg hno oa ob
  refine (c_l3Unify bb g Sub.none a b r σ tr IsGood.none hno oa ob hg s0 hA0).mono ?_
  rintro _ s2 ⟨rfl, hA, hk⟩
  have hD : Drops s2 st := fun x => by
    have key : ∀ o, st x = some o → s2 x = some o := fun o h => hk x o ((hD0 x).2 o h) (by rintro rfl; rw [hbb] at h; cases h)
    refine ⟨fun h => ?_, key⟩
    cases hb : st x with
    | none => rfl
    | some o => rw [key o hb] at h; cases h
  rw [uniB_eq h hb' hU hR]
  cases r with
  | false =>
    simp -implicitDefEqProofs only [evb0, evb1, evb2, evb3, evb4, evb5, evb6, evb7, evb8, evb9, ↓evZ2, ↓evZ3, ↓Int.cast_ofNat_Int, implies_true, ne_eq, or_false, false_or, or_self, gt_iff_lt, isMut, aFn, List.contains, List.elem, aBox, aField, aLoad, sub, aNil, aPick, aExt, aFld, gd, noJunk, plainOp, aBuildSlice, aBuild, aFill, aParts, seqParts, fitAll, List.range', ↓reduceIte, reduceCtorEq, Nat.reduceEqDiff, Nat.reduceAdd, Nat.reduceLeDiff, Nat.reduceMul, Nat.reduceLT, Nat.reduceBEq, Int.reduceEq, tf_P3_24]
    exact ⟨by simp only [soft_agg, soft_tup, soft_int, soft_bool, soft_str, soft_slice, soft_fslice, soft_ptr, soft_pptr, soft_map, soft_mslice, Tm.soft, List.map_cons, List.map_nil, if_false, Bool.false_eq_true], hD⟩
  | true =>
  obtain ⟨rk, B, G⟩ := hU.uni.good.rs
  simp -implicitDefEqProofs only [evb0, evb1, evb2, evb3, evb4, evb5, evb6, evb7, evb8, evb9, ↓evZ2, ↓evZ3, ↓Int.cast_ofNat_Int, implies_true, ne_eq, or_false, false_or, or_self, gt_iff_lt, isMut, aFn, List.contains, List.elem, aBox, aField, aLoad, sub, aNil, aPick, aExt, aFld, gd, noJunk, plainOp, aBuildSlice, aBuild, aFill, aParts, seqParts, fitAll, List.range', ↓reduceIte, reduceCtorEq, Nat.reduceEqDiff, Nat.reduceAdd, Nat.reduceLeDiff, Nat.reduceMul, Nat.reduceLT, Nat.reduceBEq, Int.reduceEq, tf_P3_24]
  refine arun_growB (σ := Unit) [1000000] [6, 7] (List.range 26) 5 8 (fun i _ => (bindsTo σ i).map bdAv) (fun i _ => (bindsTo σ i).all fitB = true) (fun i _ => [(4, .fslice []), (5, .bool false), (9, .int .i64 i)]) (fun _ _ => s2) (fun i _ _ e he => by simp only [List.mem_map] at he; obtain ⟨t, _, rfl⟩ := he; exact ⟨bdAv_junk t, bdAv_width t⟩) (by decide +kernel) ⟨(), 0, rfl, fun h => absurd rfl h, LessL.mk (by simp -implicitDefEqProofs only [show bindsTo σ 0 = [] from rfl, List.map_nil, accV_nil, accS_nil, evb0, evb1, evb2, evb3, evb4, evb5, evb6, evb7, evb8, evb9, ↓evZ2, ↓evZ3, ↓Int.cast_ofNat_Int, implies_true, ne_eq, or_false, false_or, or_self, gt_iff_lt, isMut, aFn, List.contains, List.elem, aBox, aField, aLoad, sub, aNil, aPick, aExt, aFld, gd, noJunk, plainOp, aBuildSlice, aBuild, aFill, aParts, seqParts, fitAll, List.range', ↓reduceIte, reduceCtorEq, Nat.reduceEqDiff, Nat.reduceAdd, Nat.reduceLeDiff, Nat.reduceMul, Nat.reduceLT, Nat.reduceBEq, Int.reduceEq, tf_P3_24])⟩ (fun i x s b hx hlt hlt' hdr hinv hb => ?_) (fun s b hge hinv hb => ?_)
  · rw [List.length_range] at hlt
    have hx' : x = i := by rw [List.getElem?_range hlt] at hx; exact (Option.some.inj hx).symm
    subst hx'
    have hlen' := bindsTo_len σ x
    have hw := wrap64 (n := (x : Int) + 1) (by omega) (by omega)
    have hlt2 : decide ((x : Int) < 26) = true := by simp; omega
    have hSA := hA.acc hb
    have hat := held_at (P := prog) (b := bb) (len := 26) eI_27 hlt
    cases hs : σ (x : Int) with
    | none =>
      obtain ⟨D, e1, e2, _⟩ := hSA.none hlt hs
      rw [← bindsTo_none hs] at hinv hb e1 ⊢
      simp -implicitDefEqProofs only [hlt2, hat, e1, e2, decide_true, evb0, evb1, evb2, evb3, evb4, evb5, evb6, evb7, evb8, evb9, ↓evZ2, ↓evZ3, ↓Int.cast_ofNat_Int, implies_true, ne_eq, or_false, false_or, or_self, gt_iff_lt, isMut, aFn, List.contains, List.elem, aBox, aField, aLoad, sub, aNil, aPick, aExt, aFld, gd, noJunk, plainOp, aBuildSlice, aBuild, aFill, aParts, seqParts, fitAll, List.range', ↓reduceIte, reduceCtorEq, Nat.reduceEqDiff, Nat.reduceAdd, Nat.reduceLeDiff, Nat.reduceMul, Nat.reduceLT, Nat.reduceBEq, Int.reduceEq, tf_P3_24]
      exact ⟨(), b, hinv, hb, LessL.mk (by simp -implicitDefEqProofs only [hw, evb0, evb1, evb2, evb3, evb4, evb5, evb6, evb7, evb8, evb9, ↓evZ2, ↓evZ3, ↓Int.cast_ofNat_Int, implies_true, ne_eq, or_false, false_or, or_self, gt_iff_lt, isMut, aFn, List.contains, List.elem, aBox, aField, aLoad, sub, aNil, aPick, aExt, aFld, gd, noJunk, plainOp, aBuildSlice, aBuild, aFill, aParts, seqParts, fitAll, List.range', ↓reduceIte, reduceCtorEq, Nat.reduceEqDiff, Nat.reduceAdd, Nat.reduceLeDiff, Nat.reduceMul, Nat.reduceLT, Nat.reduceBEq, Int.reduceEq, tf_P3_24])⟩
    | some u =>
      have ho := hok _ _ hs
      have hc := c_l3Full G hok bb 120 u (accS s2 b ((bindsTo σ x).map bdAv)) (Nat.le_refl _) ho hSA
      have hoR := G.okT hU.okA ho.1
      have hbi := @bindsTo_bad σ x u hlt hs
      obtain ⟨k', n', s', ts'⟩ := u
      have hk' : ¬ k' = 0 := by have := (ownOk_kind (Tm.okA_own ho.1).1).1; omega
      obtain ⟨D, e1, e2, e3, e4⟩ := hSA.some hlt hs
      rw [Tm.av_mk] at hc
      simp -implicitDefEqProofs only [hlt2, hat, e1, e2, e3, e4, hk', decide_false, evb0, evb1, evb2, evb3, evb4, evb5, evb6, evb7, evb8, evb9, ↓evZ2, ↓evZ3, ↓Int.cast_ofNat_Int, implies_true, ne_eq, or_false, false_or, or_self, gt_iff_lt, isMut, aFn, List.contains, List.elem, aBox, aField, aLoad, sub, aNil, aPick, aExt, aFld, gd, noJunk, plainOp, aBuildSlice, aBuild, aFill, aParts, seqParts, fitAll, List.range', ↓reduceIte, reduceCtorEq, Nat.reduceEqDiff, Nat.reduceAdd, Nat.reduceLeDiff, Nat.reduceMul, Nat.reduceLT, Nat.reduceBEq, Int.reduceEq, tf_P3_24]
      refine hc.mono ?_
      rintro _ _ ⟨rfl, y, left, rfl, hl1, hl2⟩
      simp -implicitDefEqProofs only [Tm.av_agg, Tm.av_width, Tm.av_junk, Tm.av_store, evb0, evb1, evb2, evb3, evb4, evb5, evb6, evb7, evb8, evb9, ↓evZ2, ↓evZ3, ↓Int.cast_ofNat_Int, implies_true, ne_eq, or_false, false_or, or_self, gt_iff_lt, isMut, aFn, List.contains, List.elem, aBox, aField, aLoad, sub, aNil, aPick, aExt, aFld, gd, noJunk, plainOp, aBuildSlice, aBuild, aFill, aParts, seqParts, fitAll, List.range', ↓reduceIte, reduceCtorEq, Nat.reduceEqDiff, Nat.reduceAdd, Nat.reduceLeDiff, Nat.reduceMul, Nat.reduceLT, Nat.reduceBEq, Int.reduceEq, tf_P3_24]
      refine opsG_split (fun h9 => ?_) (fun h9 => ?_)
      case refine_2 =>
        have h9' : left < 0 := by simpa using h9
        simp -implicitDefEqProofs only [h9, evb0, evb1, evb2, evb3, evb4, evb5, evb6, evb7, evb8, evb9, ↓evZ2, ↓evZ3, ↓Int.cast_ofNat_Int, implies_true, ne_eq, or_false, false_or, or_self, gt_iff_lt, isMut, aFn, List.contains, List.elem, aBox, aField, aLoad, sub, aNil, aPick, aExt, aFld, gd, noJunk, plainOp, aBuildSlice, aBuild, aFill, aParts, seqParts, fitAll, List.range', ↓reduceIte, reduceCtorEq, Nat.reduceEqDiff, Nat.reduceAdd, Nat.reduceLeDiff, Nat.reduceMul, Nat.reduceLT, Nat.reduceBEq, Int.reduceEq, tf_P3_24]
        refine ⟨?_, Drops.accS hD fun h => (hD b).1 (hb h)⟩
        have : ¬ (bindsOf σ).all fitB = true := hbi fun hf => by
          rw [if_pos hf.2] at hl2
          have := hf.2
          omega
        unfold allAv
        rw [if_neg this]
        simp only [soft_agg, soft_tup, soft_int, soft_bool, soft_str, soft_slice, soft_fslice, soft_ptr, soft_pptr, soft_map, soft_mslice, Tm.soft, List.map_cons, List.map_nil]
      have h9' : ¬ left < 0 := by simpa using h9
      have hle : ((Tm.mk k' n' s' ts').mapv (rs σ)).nodes ≤ 120 := by
        refine Classical.byContradiction fun hn => ?_
        rw [if_neg hn] at hl2
        exact h9' hl2
      rw [if_pos hle] at hl2
      obtain ⟨rfl, hl3⟩ := hl2
      simp -implicitDefEqProofs only [h9, evb0, evb1, evb2, evb3, evb4, evb5, evb6, evb7, evb8, evb9, ↓evZ2, ↓evZ3, ↓Int.cast_ofNat_Int, implies_true, ne_eq, or_false, false_or, or_self, gt_iff_lt, isMut, aFn, List.contains, List.elem, aBox, aField, aLoad, sub, aNil, aPick, aExt, aFld, gd, noJunk, plainOp, aBuildSlice, aBuild, aFill, aParts, seqParts, fitAll, List.range', ↓reduceIte, reduceCtorEq, Nat.reduceEqDiff, Nat.reduceAdd, Nat.reduceLeDiff, Nat.reduceMul, Nat.reduceLT, Nat.reduceBEq, Int.reduceEq, tf_P3_24]
      refine (c_spec_TermValid _ _).to ?_
      simp -implicitDefEqProofs only [h9, evb0, evb1, evb2, evb3, evb4, evb5, evb6, evb7, evb8, evb9, ↓evZ2, ↓evZ3, ↓Int.cast_ofNat_Int, implies_true, ne_eq, or_false, false_or, or_self, gt_iff_lt, isMut, aFn, List.contains, List.elem, aBox, aField, aLoad, sub, aNil, aPick, aExt, aFld, gd, noJunk, plainOp, aBuildSlice, aBuild, aFill, aParts, seqParts, fitAll, List.range', ↓reduceIte, reduceCtorEq, Nat.reduceEqDiff, Nat.reduceAdd, Nat.reduceLeDiff, Nat.reduceMul, Nat.reduceLT, Nat.reduceBEq, Int.reduceEq, tf_P3_24]
      refine cond_split (fun h8 => ?_) (fun h8 => ?_)
      · simp -implicitDefEqProofs only [evb0, evb1, evb2, evb3, evb4, evb5, evb6, evb7, evb8, evb9, ↓evZ2, ↓evZ3, ↓Int.cast_ofNat_Int, implies_true, ne_eq, or_false, false_or, or_self, gt_iff_lt, isMut, aFn, List.contains, List.elem, aBox, aField, aLoad, sub, aNil, aPick, aExt, aFld, gd, noJunk, plainOp, aBuildSlice, aBuild, aFill, aParts, seqParts, fitAll, List.range', ↓reduceIte, reduceCtorEq, Nat.reduceEqDiff, Nat.reduceAdd, Nat.reduceLeDiff, Nat.reduceMul, Nat.reduceLT, Nat.reduceBEq, Int.reduceEq, tf_P3_24]
        refine ⟨?_, Drops.accS hD fun h => (hD b).1 (hb h)⟩
        have : ¬ (bindsOf σ).all fitB = true := hbi fun hf => by
          have h7 := Tm.valid_iff hoR
          simp only [hf.1, hf.2, decide_true, Bool.and_self] at h7
          simp [h7] at h8
        unfold allAv
        rw [if_neg this]
        simp only [soft_agg, soft_tup, soft_int, soft_bool, soft_str, soft_slice, soft_fslice, soft_ptr, soft_pptr, soft_map, soft_mslice, Tm.soft, List.map_cons, List.map_nil]
      · simp -implicitDefEqProofs only [evb0, evb1, evb2, evb3, evb4, evb5, evb6, evb7, evb8, evb9, ↓evZ2, ↓evZ3, ↓Int.cast_ofNat_Int, implies_true, ne_eq, or_false, false_or, or_self, gt_iff_lt, isMut, aFn, List.contains, List.elem, aBox, aField, aLoad, sub, aNil, aPick, aExt, aFld, gd, noJunk, plainOp, aBuildSlice, aBuild, aFill, aParts, seqParts, fitAll, List.range', ↓reduceIte, reduceCtorEq, Nat.reduceEqDiff, Nat.reduceAdd, Nat.reduceLeDiff, Nat.reduceMul, Nat.reduceLT, Nat.reduceBEq, Int.reduceEq, tf_P3_24]
        have hv : ((Tm.mk k' n' s' ts').mapv (rs σ)).valid = true := by simpa using h8
        rw [Tm.valid_iff hoR] at hv
        rw [bdAv_mk]
        have hlen2 : ((bindsTo σ x).map bdAv).length ≤ x := by rw [List.length_map]; exact hlen'
        refine acc_append eI_44 eB_44 eZ_44 rfl rfl (by intro e he; simp only [List.mem_cons, List.not_mem_nil, or_false] at he; subst he; exact ⟨bdAv_width _, bdAv_store _⟩) (bd_widths _) hb (by simp only [List.length_cons, List.length_nil]; omega) (by simp only [List.length_cons, List.length_nil]; omega) (fun b' hb' => ?_)
        rw [show (bindsTo σ x).map bdAv ++ [bdAv ((x : Int), (Tm.mk k' n' s' ts').mapv (rs σ))] = (bindsTo σ (x + 1)).map bdAv by rw [bindsTo_some hs]; simp] at hb' ⊢
        simp -implicitDefEqProofs only [evb0, evb1, evb2, evb3, evb4, evb5, evb6, evb7, evb8, evb9, ↓evZ2, ↓evZ3, ↓Int.cast_ofNat_Int, implies_true, ne_eq, or_false, false_or, or_self, gt_iff_lt, isMut, aFn, List.contains, List.elem, aBox, aField, aLoad, sub, aNil, aPick, aExt, aFld, gd, noJunk, plainOp, aBuildSlice, aBuild, aFill, aParts, seqParts, fitAll, List.range', ↓reduceIte, reduceCtorEq, Nat.reduceEqDiff, Nat.reduceAdd, Nat.reduceLeDiff, Nat.reduceMul, Nat.reduceLT, Nat.reduceBEq, Int.reduceEq, tf_P3_24]
        refine ⟨(), b', ?_, hb', LessL.mk (by simp -implicitDefEqProofs only [hw, evb0, evb1, evb2, evb3, evb4, evb5, evb6, evb7, evb8, evb9, ↓evZ2, ↓evZ3, ↓Int.cast_ofNat_Int, implies_true, ne_eq, or_false, false_or, or_self, gt_iff_lt, isMut, aFn, List.contains, List.elem, aBox, aField, aLoad, sub, aNil, aPick, aExt, aFld, gd, noJunk, plainOp, aBuildSlice, aBuild, aFill, aParts, seqParts, fitAll, List.range', ↓reduceIte, reduceCtorEq, Nat.reduceEqDiff, Nat.reduceAdd, Nat.reduceLeDiff, Nat.reduceMul, Nat.reduceLT, Nat.reduceBEq, Int.reduceEq, tf_P3_24])⟩
        rw [bindsTo_some hs, List.all_append, hinv]
        simpa [fitB] using hv
  · have hge' : decide ((25 : Int) + 1 < 26) = false := rfl
    rw [List.length_range] at hinv hb
    have hms := @fin_ms b bb 26 4 ((bindsTo σ 26).map bdAv) (fun h => by have := hb h; rintro rfl; rw [ArrAt, this] at hA; cases hA)
    simp -implicitDefEqProofs only [List.length_range, hge', fin_accV, finL, fin_slice, fin_fslice, fin_bool, fin_int, fin_ptr, hms, evb0, evb1, evb2, evb3, evb4, evb5, evb6, evb7, evb8, evb9, ↓evZ2, ↓evZ3, ↓Int.cast_ofNat_Int, implies_true, ne_eq, or_false, false_or, or_self, gt_iff_lt, isMut, aFn, List.contains, List.elem, aBox, aField, aLoad, sub, aNil, aPick, aExt, aFld, gd, noJunk, plainOp, aBuildSlice, aBuild, aFill, aParts, seqParts, fitAll, List.range', ↓reduceIte, reduceCtorEq, Nat.reduceEqDiff, Nat.reduceAdd, Nat.reduceLeDiff, Nat.reduceMul, Nat.reduceLT, Nat.reduceBEq, Int.reduceEq, tf_P3_24]
    rw [bindsTo_26] at hinv ⊢
    refine ⟨?_, hD⟩
    unfold allAv
    rw [if_pos hinv]
    simp only [soft_agg, soft_tup, soft_int, soft_bool, soft_str, soft_slice, soft_fslice, soft_ptr, soft_pptr, soft_map, soft_mslice, Tm.soft, List.map_cons, List.map_nil]
end Go.AW


/- Draws: bytes, numbers that are picked. -/
namespace Go.AW
open Go.Proofs.Try
set_option linter.unusedSimpArgs false
set_option maxRecDepth 100000

abbrev Bt := Fin 256
def byteAv (b : Bt) : AV := .int .u8 (b.val : Int)
theorem byteAv_width (b : Bt) : (byteAv b).width = 1 := rfl
/-- What draws: bytes, and how many were drawn. -/
def RdAt (st : Store) (c : Nat) (bs : List Bt) (p : Nat) : Prop := st c = some (.cells [.slice (bs.map byteAv), .int .i64 (p : Int)])
def rdC (bs : List Bt) (p : Nat) : AO := .cells [.slice (bs.map byteAv), .int .i64 (p : Int)]

theorem tmod_nat (a b : Nat) : (a : Int).tmod (b : Int) = ((a % b : Nat) : Int) := (Int.ofNat_tmod a b).symm
theorem tdiv_nat (a b : Nat) : (a : Int).tdiv (b : Int) = ((a / b : Nat) : Int) := (Int.ofNat_tdiv a b).symm

theorem aXor_nat (a b : Nat) (ha : a < 2 ^ 62) (hb : b < 2 ^ 62) : ∃ m : Nat, aXor .i64 (a : Int) (b : Int) = (m : Int) := by
  have hx := Nat.xor_lt_two_pow ha hb
  refine ⟨a ^^^ b, ?_⟩
  unfold aXor
  show IntKind.i64.wrap (((BitVec.ofInt 64 (a : Int) ^^^ BitVec.ofInt 64 (b : Int)).toNat : Nat) : Int) = _
  rw [BitVec.ofInt_natCast, BitVec.ofInt_natCast, BitVec.toNat_xor, BitVec.toNat_ofNat, BitVec.toNat_ofNat, Nat.mod_eq_of_lt (by omega), Nat.mod_eq_of_lt (by omega)]
  rw [wrap64 (by omega) (by omega)]

theorem tf_D1_120 : (type_of% tI_2) ∧ (type_of% zI_2) ∧ (type_of% Go.Proofs.Try.underlying2) ∧ (type_of% tI_3) ∧ (type_of% zI_3) ∧ (type_of% Go.Proofs.Try.underlying3) ∧ (type_of% tI_4) ∧ (type_of% zI_4) ∧ (type_of% Go.Proofs.Try.underlying4) ∧ (type_of% tI_5) ∧ (type_of% zI_5) ∧ (type_of% Go.Proofs.Try.underlying5) ∧ (type_of% tI_6) ∧ (type_of% zI_6) ∧ (type_of% Go.Proofs.Try.underlying6) ∧ (type_of% tI_7) ∧ (type_of% zI_7) ∧ (type_of% fI_7_0) ∧ (type_of% fI_7_1) ∧ (type_of% fI_7_2) ∧ (type_of% fI_7_3) ∧ (type_of% bI_7) ∧ (type_of% tI_8) ∧ (type_of% zI_8) ∧ (type_of% fI_8_0) ∧ (type_of% fI_8_1) ∧ (type_of% fI_8_2) ∧ (type_of% fI_8_3) ∧ (type_of% bI_8) ∧ (type_of% tI_9) ∧ (type_of% zI_9) ∧ (type_of% Go.Proofs.Try.underlying9) ∧ (type_of% tI_10) ∧ (type_of% zI_10) ∧ (type_of% Go.Proofs.Try.underlying10) ∧ (type_of% tI_18) ∧ (type_of% zI_18) ∧ (type_of% fI_18_0) ∧ (type_of% bI_18) ∧ (type_of% tI_19) ∧ (type_of% zI_19) ∧ (type_of% fI_19_0) ∧ (type_of% bI_19) ∧ (type_of% tI_21) ∧ (type_of% zI_21) ∧ (type_of% Go.Proofs.Try.underlying21) ∧ (type_of% tI_22) ∧ (type_of% zI_22) ∧ (type_of% eI_22) ∧ (type_of% eB_22) ∧ (type_of% eZ_22) ∧ (type_of% Go.Proofs.Try.underlying22) ∧ (type_of% tI_23) ∧ (type_of% zI_23) ∧ (type_of% fI_23_0) ∧ (type_of% bI_23) ∧ (type_of% tI_39) ∧ (type_of% zI_39) ∧ (type_of% eI_39) ∧ (type_of% eB_39) ∧ (type_of% eZ_39) ∧ (type_of% Go.Proofs.Try.underlying39) ∧ (type_of% tI_53) ∧ (type_of% zI_53) ∧ (type_of% fI_53_0) ∧ (type_of% fI_53_1) ∧ (type_of% bI_53) ∧ (type_of% tI_56) ∧ (type_of% zI_56) ∧ (type_of% eI_56) ∧ (type_of% eB_56) ∧ (type_of% eZ_56) ∧ (type_of% Go.Proofs.Try.underlying56) ∧ (type_of% tI_64) ∧ (type_of% zI_64) ∧ (type_of% fI_64_0) ∧ (type_of% fI_64_1) ∧ (type_of% bI_64) ∧ (type_of% tI_73) ∧ (type_of% zI_73) ∧ (type_of% eI_73) ∧ (type_of% eB_73) ∧ (type_of% eZ_73) ∧ (type_of% Go.Proofs.Try.underlying73) ∧ (type_of% tI_131) ∧ (type_of% zI_131) ∧ (type_of% fI_131_0) ∧ (type_of% fI_131_1) ∧ (type_of% bI_131) ∧ (type_of% tI_140) ∧ (type_of% zI_140) ∧ (type_of% tI_180) ∧ (type_of% zI_180) ∧ (type_of% fI_180_0) ∧ (type_of% fI_180_1) ∧ (type_of% bI_180) := ⟨tI_2, zI_2, Go.Proofs.Try.underlying2, tI_3, zI_3, Go.Proofs.Try.underlying3, tI_4, zI_4, Go.Proofs.Try.underlying4, tI_5, zI_5, Go.Proofs.Try.underlying5, tI_6, zI_6, Go.Proofs.Try.underlying6, tI_7, zI_7, fI_7_0, fI_7_1, fI_7_2, fI_7_3, bI_7, tI_8, zI_8, fI_8_0, fI_8_1, fI_8_2, fI_8_3, bI_8, tI_9, zI_9, Go.Proofs.Try.underlying9, tI_10, zI_10, Go.Proofs.Try.underlying10, tI_18, zI_18, fI_18_0, bI_18, tI_19, zI_19, fI_19_0, bI_19, tI_21, zI_21, Go.Proofs.Try.underlying21, tI_22, zI_22, eI_22, eB_22, eZ_22, Go.Proofs.Try.underlying22, tI_23, zI_23, fI_23_0, bI_23, tI_39, zI_39, eI_39, eB_39, eZ_39, Go.Proofs.Try.underlying39, tI_53, zI_53, fI_53_0, fI_53_1, bI_53, tI_56, zI_56, eI_56, eB_56, eZ_56, Go.Proofs.Try.underlying56, tI_64, zI_64, fI_64_0, fI_64_1, bI_64, tI_73, zI_73, eI_73, eB_73, eZ_73, Go.Proofs.Try.underlying73, tI_131, zI_131, fI_131_0, fI_131_1, bI_131, tI_140, zI_140, tI_180, zI_180, fI_180_0, fI_180_1, bI_180⟩
theorem c_pick (bs : List Bt) (c p : Nat) (hp : p ≤ 1099511627776) (n : Nat) (hn : 1 ≤ n) (hn2 : n ≤ 1048576) (st : Store) (h : RdAt st c bs p) :
    ACalls prog 120 [.ptr c 0, .int .i64 (n : Int)] st (fun r st' => ∃ k : Nat, k < n ∧ r = .int .i64 (k : Int) ∧ st' = st.upd c (rdC bs (p + 1))) := by
  unfold RdAt at h
  refine acalls_fit [1000000] func120 ntmps120 rfl rfl (by kernel_rfl) (by decide +kernel) (by show 2 ≤ _; decide +kernel) ?_
  intro _
  have hw1 : IntKind.i64.wrap ((p : Int) + 1) = (p : Int) + 1 := wrap64 (by omega) (by omega)
  simp -implicitDefEqProofs only [setCells, h, hw1, evb0, evb1, evb2, evb3, evb4, evb5, evb6, evb7, evb8, evb9, ↓evZ2, ↓evZ3, ↓Int.cast_ofNat_Int, implies_true, ne_eq, or_false, false_or, or_self, gt_iff_lt, isMut, aFn, List.contains, List.elem, aBox, aField, aLoad, sub, aNil, aPick, aExt, aFld, gd, noJunk, plainOp, aBuildSlice, aBuild, aFill, aParts, seqParts, fitAll, List.range', ↓reduceIte, reduceCtorEq, Nat.reduceEqDiff, Nat.reduceAdd, Nat.reduceLeDiff, Nat.reduceMul, Nat.reduceLT, Nat.reduceBEq, Int.reduceEq, tf_D1_120]
  have hn1 : ¬ (n : Int) < 1 := by omega
  have hw2 : IntKind.i64.wrap ((p : Int) + 1 - 1) = (p : Int) := by rw [wrap64 (by omega) (by omega)]; omega
  have hst : ∀ (q : Store), q c = some (.cells [.slice (bs.map byteAv), .int .i64 ((p : Int) + 1)]) → True := fun _ _ => trivial
  have hrd : rdC bs (p + 1) = .cells [.slice (bs.map byteAv), .int .i64 ((p : Int) + 1)] := by simp [rdC]
  rw [hrd]
  refine opsG_split (fun h1 => ?_) (fun h1 => ?_)
  case refine_2 => simp [hn1] at h1
  simp -implicitDefEqProofs only [decide_false, beq_self_eq_true, setCells, hw1, hw2, hn1, List.length_map, evb0, evb1, evb2, evb3, evb4, evb5, evb6, evb7, evb8, evb9, ↓evZ2, ↓evZ3, ↓Int.cast_ofNat_Int, implies_true, ne_eq, or_false, false_or, or_self, gt_iff_lt, isMut, aFn, List.contains, List.elem, aBox, aField, aLoad, sub, aNil, aPick, aExt, aFld, gd, noJunk, plainOp, aBuildSlice, aBuild, aFill, aParts, seqParts, fitAll, List.range', ↓reduceIte, reduceCtorEq, Nat.reduceEqDiff, Nat.reduceAdd, Nat.reduceLeDiff, Nat.reduceMul, Nat.reduceLT, Nat.reduceBEq, Int.reduceEq, tf_D1_120]
  refine cond_split (fun h2 => ?_) (fun h2 => ?_)
  · simp -implicitDefEqProofs only [setCells, hw1, hw2, hn1, List.length_map, evb0, evb1, evb2, evb3, evb4, evb5, evb6, evb7, evb8, evb9, ↓evZ2, ↓evZ3, ↓Int.cast_ofNat_Int, implies_true, ne_eq, or_false, false_or, or_self, gt_iff_lt, isMut, aFn, List.contains, List.elem, aBox, aField, aLoad, sub, aNil, aPick, aExt, aFld, gd, noJunk, plainOp, aBuildSlice, aBuild, aFill, aParts, seqParts, fitAll, List.range', ↓reduceIte, reduceCtorEq, Nat.reduceEqDiff, Nat.reduceAdd, Nat.reduceLeDiff, Nat.reduceMul, Nat.reduceLT, Nat.reduceBEq, Int.reduceEq, tf_D1_120]
    exact ⟨0, by omega, rfl⟩
  simp -implicitDefEqProofs only [setCells, hw1, hw2, hn1, List.length_map, evb0, evb1, evb2, evb3, evb4, evb5, evb6, evb7, evb8, evb9, ↓evZ2, ↓evZ3, ↓Int.cast_ofNat_Int, implies_true, ne_eq, or_false, false_or, or_self, gt_iff_lt, isMut, aFn, List.contains, List.elem, aBox, aField, aLoad, sub, aNil, aPick, aExt, aFld, gd, noJunk, plainOp, aBuildSlice, aBuild, aFill, aParts, seqParts, fitAll, List.range', ↓reduceIte, reduceCtorEq, Nat.reduceEqDiff, Nat.reduceAdd, Nat.reduceLeDiff, Nat.reduceMul, Nat.reduceLT, Nat.reduceBEq, Int.reduceEq, tf_D1_120]
  have hbl : bs.length ≠ 0 := by simpa using h2
  refine cond_split (fun h3 => ?_) (fun h3 => ?_)
  · simp only [decide_eq_true_eq] at h3
    obtain ⟨x, hx⟩ : ∃ x, bs[p]? = some x := ⟨_, List.getElem?_eq_getElem (by omega)⟩
    have hx2 := x.isLt
    have hb1 : IntKind.i64.wrap (x.val : Int) = (x.val : Int) := wrap64 (by omega) (by omega)
    have hn0 : ¬ (n : Int) = 0 := by omega
    have hatx : aIndexAddr prog 39 (.slice (bs.map byteAv)) (.int .i64 (p : Int)) = some (.pptr (.int .u8 x.val)) := ev_at (av := byteAv) eI_39 hx (byteAv_width x)
    simp -implicitDefEqProofs only [hatx, aConvert, hb1, hn0, setCells, hw1, hw2, hn1, List.length_map, evb0, evb1, evb2, evb3, evb4, evb5, evb6, evb7, evb8, evb9, ↓evZ2, ↓evZ3, ↓Int.cast_ofNat_Int, implies_true, ne_eq, or_false, false_or, or_self, gt_iff_lt, isMut, aFn, List.contains, List.elem, aBox, aField, aLoad, sub, aNil, aPick, aExt, aFld, gd, noJunk, plainOp, aBuildSlice, aBuild, aFill, aParts, seqParts, fitAll, List.range', ↓reduceIte, reduceCtorEq, Nat.reduceEqDiff, Nat.reduceAdd, Nat.reduceLeDiff, Nat.reduceMul, Nat.reduceLT, Nat.reduceBEq, Int.reduceEq, tf_D1_120]
    exact ⟨x.val % n, Nat.mod_lt _ (by omega), by rw [tmod_nat]⟩
  · simp only [decide_eq_false_iff_not] at h3
    obtain ⟨x, hx⟩ : ∃ x, bs[p % bs.length]? = some x := ⟨_, List.getElem?_eq_getElem (Nat.mod_lt _ (by omega))⟩
    obtain ⟨y, hy⟩ : ∃ y, bs[(p * 7 + 3) % bs.length]? = some y := ⟨_, List.getElem?_eq_getElem (Nat.mod_lt _ (by omega))⟩
    have hx2 := x.isLt
    have hy2 := y.isLt
    have hl0 : ¬ (bs.length : Int) = 0 := by omega
    simp -implicitDefEqProofs only [setCells, hw1, hw2, hn1, List.length_map, evb0, evb1, evb2, evb3, evb4, evb5, evb6, evb7, evb8, evb9, ↓evZ2, ↓evZ3, ↓Int.cast_ofNat_Int, implies_true, ne_eq, or_false, false_or, or_self, gt_iff_lt, isMut, aFn, List.contains, List.elem, aBox, aField, aLoad, sub, aNil, aPick, aExt, aFld, gd, noJunk, plainOp, aBuildSlice, aBuild, aFill, aParts, seqParts, fitAll, List.range', ↓reduceIte, reduceCtorEq, Nat.reduceEqDiff, Nat.reduceAdd, Nat.reduceLeDiff, Nat.reduceMul, Nat.reduceLT, Nat.reduceBEq, Int.reduceEq, tf_D1_120]
    refine arun_planX [(0, 1), (1, 1), (2, 1), (3, 1), (4, 1), (5, 1), (6, 1), (7, 1), (8, 1), (9, 1), (10, 1), (11, 1), (12, 1), (13, 1), (14, 1), (15, 1), (16, 1), (17, 1), (18, 1), (19, 1), (20, 1), (21, 1), (22, 1), (23, 1), (24, 1), (25, 1), (26, 1), (27, 1), (28, 1), (29, 1), (30, 1), (31, 1), (32, 1), (33, 1), (34, 1), (35, 1), (36, 1), (37, 1), (38, 1), (39, 1), (40, 1), (41, 1), (42, 1), (43, 1), (44, 1), (45, 1)] [0, 1, 2, 3, 4, 5, 6, 7, 8, 9, 10, 11, 12, 13, 14, 15, 16, 17, 18, 19, 20, 21, 22, 23, 24, 25, 26, 27, 28, 29, 30, 31, 32, 33, 34, 35, 36, 37, 38, 39, 40, 41, 42, 43, 44, 45] (none0'.upd c (.cells [.slice (bs.map byteAv), .int .i64 ((p : Int) + 1)])) mixed (by decide +kernel) (by decide +kernel) (by decide +kernel) rfl (ext_one (Store.upd_same _ _ _)) ?_
    have e7 : IntKind.i64.wrap ((p : Int) * 7) = (p : Int) * 7 := wrap64 (by omega) (by omega)
    have e8 : IntKind.i64.wrap ((p : Int) * 7 + 3) = (p : Int) * 7 + 3 := wrap64 (by omega) (by omega)
    have e9 : ((p : Int) * 7 + 3).tmod (bs.length : Int) = (((p * 7 + 3) % bs.length : Nat) : Int) := by rw [← tmod_nat]; congr 1
    have f1 : IntKind.i64.wrap ((x.val : Int) * 131) = (x.val : Int) * 131 := wrap64 (by omega) (by omega)
    have f2 : IntKind.i64.wrap ((y.val : Int) * 1117) = (y.val : Int) * 1117 := wrap64 (by omega) (by omega)
    have f3 : IntKind.i64.wrap ((x.val : Int) * 131 + (y.val : Int) * 1117) = (x.val : Int) * 131 + (y.val : Int) * 1117 := wrap64 (by omega) (by omega)
    have f4 : IntKind.i64.wrap ((p : Int) * 29) = (p : Int) * 29 := wrap64 (by omega) (by omega)
    have f5 : IntKind.i64.wrap ((x.val : Int) * 131 + (y.val : Int) * 1117 + (p : Int) * 29) = (x.val : Int) * 131 + (y.val : Int) * 1117 + (p : Int) * 29 := wrap64 (by omega) (by omega)
    have hb1 : IntKind.i64.wrap (x.val : Int) = (x.val : Int) := wrap64 (by omega) (by omega)
    have hb2 : IntKind.i64.wrap (y.val : Int) = (y.val : Int) := wrap64 (by omega) (by omega)
    generalize hjx : p % bs.length = jx at *
    generalize hjy : (p * 7 + 3) % bs.length = jy at *
    have e10 : (p : Int).tmod (bs.length : Int) = (jx : Int) := by rw [tmod_nat, hjx]
    have hatx : aIndexAddr prog 39 (.slice (bs.map byteAv)) (.int .i64 (jx : Int)) = some (.pptr (.int .u8 x.val)) := ev_at (av := byteAv) eI_39 hx (byteAv_width x)
    have haty : aIndexAddr prog 39 (.slice (bs.map byteAv)) (.int .i64 (jy : Int)) = some (.pptr (.int .u8 y.val)) := ev_at (av := byteAv) eI_39 hy (byteAv_width y)
    have hdv : p / bs.length ≤ p := Nat.div_le_self _ _
    generalize hq : p / bs.length = q at *
    have hqq : IntKind.i64.wrap ((p : Int).tdiv (bs.length : Int)) = (q : Int) := by rw [tdiv_nat, hq, wrap64 (by omega) (by omega)]
    have f6 : IntKind.i64.wrap ((q : Int) * 53) = (q : Int) * 53 := wrap64 (by omega) (by omega)
    obtain ⟨z, hz, hz2⟩ : ∃ z : Nat, (x.val : Int) * 131 + (y.val : Int) * 1117 + (p : Int) * 29 + (q : Int) * 53 = (z : Int) ∧ z < 2 ^ 61 := ⟨x.val * 131 + y.val * 1117 + p * 29 + q * 53, by omega, by omega⟩
    have f7 : IntKind.i64.wrap ((x.val : Int) * 131 + (y.val : Int) * 1117 + (p : Int) * 29 + (q : Int) * 53) = (z : Int) := by rw [hz]; exact wrap64 (by omega) (by omega)
    have hz64 : z / 64 ≤ z := Nat.div_le_self _ _
    obtain ⟨m, hm⟩ := aXor_nat z (z / 64) (by omega) (by omega)
    have f8 : IntKind.i64.wrap ((z : Int).tdiv 64) = ((z / 64 : Nat) : Int) := by rw [show (64 : Int) = ((64 : Nat) : Int) from rfl, tdiv_nat, wrap64 (by omega) (by omega)]
    generalize z / 64 = z2 at *
    have hn0 : ¬ (n : Int) = 0 := by omega
    simp -implicitDefEqProofs only [setCells, hw1, hw2, hn1, List.length_map, hl0, e7, e8, e9, e10, f1, f2, f3, f4, f5, f6, f7, f8, hm, hn0, hatx, haty, hb1, hb2, hqq, aConvert, evb0, evb1, evb2, evb3, evb4, evb5, evb6, evb7, evb8, evb9, ↓evZ2, ↓evZ3, ↓Int.cast_ofNat_Int, implies_true, ne_eq, or_false, false_or, or_self, gt_iff_lt, isMut, aFn, List.contains, List.elem, aBox, aField, aLoad, sub, aNil, aPick, aExt, aFld, gd, noJunk, plainOp, aBuildSlice, aBuild, aFill, aParts, seqParts, fitAll, List.range', ↓reduceIte, reduceCtorEq, Nat.reduceEqDiff, Nat.reduceAdd, Nat.reduceLeDiff, Nat.reduceMul, Nat.reduceLT, Nat.reduceBEq, Int.reduceEq, tf_D1_120]
    exact ⟨m % n, Nat.mod_lt _ (by omega), rfl⟩
end Go.AW
