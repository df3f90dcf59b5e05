import Derived.Test.YtccofeljgfmplaaUpFinm
import Derived.Test.YtccofeljgfmplaaUpFink
import Derived.Test.YtccofeljgfmplaaUpFinl
import Derived.Test.YtccofeljgfmplaaUpFinf

/- The program's store of bindings: unification. -/
namespace Go.AW
open Go.Proofs.Try
set_option linter.unusedSimpArgs false
set_option maxRecDepth 100000

abbrev Sm (t : Tm) : Prop := t.small = true
theorem sm_kids : ∀ t : Tm, t.k ≠ 1 → Sm t → ∀ x ∈ t.ts, Sm x := fun t _ h x hx => by
  cases t
  exact (Tm.small_mk h).2 x hx

theorem tf_S4_70 : (type_of% tI_2) ∧ (type_of% zI_2) ∧ (type_of% Go.Proofs.Try.underlying2) ∧ (type_of% tI_3) ∧ (type_of% zI_3) ∧ (type_of% Go.Proofs.Try.underlying3) ∧ (type_of% tI_4) ∧ (type_of% zI_4) ∧ (type_of% Go.Proofs.Try.underlying4) ∧ (type_of% tI_5) ∧ (type_of% zI_5) ∧ (type_of% Go.Proofs.Try.underlying5) ∧ (type_of% tI_6) ∧ (type_of% zI_6) ∧ (type_of% Go.Proofs.Try.underlying6) ∧ (type_of% tI_7) ∧ (type_of% zI_7) ∧ (type_of% fI_7_0) ∧ (type_of% fI_7_1) ∧ (type_of% fI_7_2) ∧ (type_of% fI_7_3) ∧ (type_of% bI_7) ∧ (type_of% tI_8) ∧ (type_of% zI_8) ∧ (type_of% fI_8_0) ∧ (type_of% fI_8_1) ∧ (type_of% fI_8_2) ∧ (type_of% fI_8_3) ∧ (type_of% bI_8) ∧ (type_of% tI_9) ∧ (type_of% zI_9) ∧ (type_of% Go.Proofs.Try.underlying9) ∧ (type_of% tI_10) ∧ (type_of% zI_10) ∧ (type_of% Go.Proofs.Try.underlying10) ∧ (type_of% tI_11) ∧ (type_of% zI_11) ∧ (type_of% Go.Proofs.Try.underlying11) ∧ (type_of% tI_12) ∧ (type_of% zI_12) ∧ (type_of% Go.Proofs.Try.underlying12) ∧ (type_of% tI_13) ∧ (type_of% zI_13) ∧ (type_of% fI_13_0) ∧ (type_of% fI_13_1) ∧ (type_of% bI_13) ∧ (type_of% tI_14) ∧ (type_of% zI_14) ∧ (type_of% fI_14_0) ∧ (type_of% fI_14_1) ∧ (type_of% bI_14) ∧ (type_of% tI_15) ∧ (type_of% zI_15) ∧ (type_of% tI_16) ∧ (type_of% zI_16) ∧ (type_of% tI_19) ∧ (type_of% zI_19) ∧ (type_of% fI_19_0) ∧ (type_of% bI_19) ∧ (type_of% tI_27) ∧ (type_of% zI_27) ∧ (type_of% eI_27) ∧ (type_of% eB_27) ∧ (type_of% eZ_27) ∧ (type_of% Go.Proofs.Try.underlying27) ∧ (type_of% tI_41) ∧ (type_of% zI_41) ∧ (type_of% fI_41_0) ∧ (type_of% fI_41_1) ∧ (type_of% fI_41_2) ∧ (type_of% fI_41_3) ∧ (type_of% bI_41) ∧ (type_of% tI_64) ∧ (type_of% zI_64) ∧ (type_of% fI_64_0) ∧ (type_of% fI_64_1) ∧ (type_of% bI_64) ∧ (type_of% tI_71) ∧ (type_of% zI_71) ∧ (type_of% eI_71) ∧ (type_of% eB_71) ∧ (type_of% eZ_71) ∧ (type_of% Go.Proofs.Try.underlying71) ∧ (type_of% tI_73) ∧ (type_of% zI_73) ∧ (type_of% eI_73) ∧ (type_of% eB_73) ∧ (type_of% eZ_73) ∧ (type_of% Go.Proofs.Try.underlying73) ∧ (type_of% tI_74) ∧ (type_of% zI_74) ∧ (type_of% fI_74_0) ∧ (type_of% fI_74_1) ∧ (type_of% fI_74_2) ∧ (type_of% fI_74_3) ∧ (type_of% fI_74_4) ∧ (type_of% fI_74_5) ∧ (type_of% bI_74) ∧ (type_of% tI_75) ∧ (type_of% zI_75) ∧ (type_of% fI_75_0) ∧ (type_of% fI_75_1) ∧ (type_of% fI_75_2) ∧ (type_of% fI_75_3) ∧ (type_of% fI_75_4) ∧ (type_of% fI_75_5) ∧ (type_of% bI_75) ∧ (type_of% tI_93) ∧ (type_of% zI_93) ∧ (type_of% eI_93) ∧ (type_of% eB_93) ∧ (type_of% eZ_93) ∧ (type_of% Go.Proofs.Try.underlying93) ∧ (type_of% tI_102) ∧ (type_of% zI_102) := ⟨tI_2, zI_2, Go.Proofs.Try.underlying2, tI_3, zI_3, Go.Proofs.Try.underlying3, tI_4, zI_4, Go.Proofs.Try.underlying4, tI_5, zI_5, Go.Proofs.Try.underlying5, tI_6, zI_6, Go.Proofs.Try.underlying6, tI_7, zI_7, fI_7_0, fI_7_1, fI_7_2, fI_7_3, bI_7, tI_8, zI_8, fI_8_0, fI_8_1, fI_8_2, fI_8_3, bI_8, tI_9, zI_9, Go.Proofs.Try.underlying9, tI_10, zI_10, Go.Proofs.Try.underlying10, tI_11, zI_11, Go.Proofs.Try.underlying11, tI_12, zI_12, Go.Proofs.Try.underlying12, tI_13, zI_13, fI_13_0, fI_13_1, bI_13, tI_14, zI_14, fI_14_0, fI_14_1, bI_14, tI_15, zI_15, tI_16, zI_16, tI_19, zI_19, fI_19_0, bI_19, tI_27, zI_27, eI_27, eB_27, eZ_27, Go.Proofs.Try.underlying27, tI_41, zI_41, fI_41_0, fI_41_1, fI_41_2, fI_41_3, bI_41, tI_64, zI_64, fI_64_0, fI_64_1, bI_64, tI_71, zI_71, eI_71, eB_71, eZ_71, Go.Proofs.Try.underlying71, tI_73, zI_73, eI_73, eB_73, eZ_73, Go.Proofs.Try.underlying73, tI_74, zI_74, fI_74_0, fI_74_1, fI_74_2, fI_74_3, fI_74_4, fI_74_5, bI_74, tI_75, zI_75, fI_75_0, fI_75_1, fI_75_2, fI_75_3, fI_75_4, fI_75_5, bI_75, tI_93, zI_93, eI_93, eB_93, eZ_93, Go.Proofs.Try.underlying93, tI_102, zI_102⟩
theorem c_unify : ∀ (g : Nat) (σ : Sub) (a b : Tm) (r : Bool) (σ' : Sub) (add : List Int), IsGood σ → AllS Sm σ → Sm a → Sm b → uniF g σ a b = some (r, σ', add) → ∀ (c m : Nat) (q : AV) (tr : List Int) (st : Store), Sto st c m q σ tr → tr.length + add.length ≤ 1099511627776 →
    ACalls prog 70 [.ptr c 0, a.av, b.av] st (fun r' st' => r' = .bool r ∧ Post c m st q σ' (tr ++ add) st')
  | 0, σ, a, b, r, σ', add, hg, hsm, ha0, hb0, h, c, m, q, tr, st, hS, hl => by simp only [uniF] at h; cases h
  | g + 1, σ, a, b, r, σ', add, hg, hsm, ha0, hb0, h, c, m, q, tr, st, hS, hl => by
    have IH := c_unify g
    obtain ⟨rk, B, G⟩ := hg.rs
    obtain ⟨fa, wa⟩ := G.wk a
    obtain ⟨fb, wb⟩ := G.wk b
    have hca := fun st (hS : SubAt st c m q σ) => c_walk wa c m q st hS
    have hcb := fun st (hS : SubAt st c m q σ) => c_walk wb c m q st hS
    have ea := wa.end
    have eb := wb.end
    have hsa := wa.all (p := Sm) hsm ha0
    have hsb := wb.all (p := Sm) hsm hb0
    replace h := uniF_cases h
    generalize wk σ a = a1 at *
    generalize wk σ b = b1 at *
    clear wa wb
    refine acalls_fit [1000000, 4, 5] func70 ntmps70 rfl rfl (by kernel_rfl) (by decide +kernel) (by show 3 ≤ _; decide +kernel) ?_
    intro hfit
    simp -implicitDefEqProofs only [setCells, evb0, evb1, evb2, evb3, evb4, evb5, evb6, evb7, evb8, evb9, ↓evZ2, ↓evZ3, ↓Int.cast_ofNat_Int, implies_true, ne_eq, or_false, false_or, or_self, gt_iff_lt, isMut, aFn, List.contains, List.elem, aBox, aField, aLoad, sub, aNil, aPick, aExt, aFld, gd, noJunk, plainOp, aBuildSlice, aBuild, aFill, aParts, seqParts, fitAll, List.range', ↓reduceIte, reduceCtorEq, Nat.reduceEqDiff, Nat.reduceAdd, Nat.reduceLeDiff, Nat.reduceMul, Nat.reduceLT, Nat.reduceBEq, Int.reduceEq, tf_S4_70]
    intro b4 h4 b5 h5
    have h54 : b5 ≠ b4 := by rintro rfl; rw [Store.upd_same] at h5; cases h5
    have hn5 : st b5 = none := by rw [Store.upd_ne st _ h54] at h5; exact h5
    have hS' : ∀ o o', Sto ((st.upd b4 o).upd b5 o') c m q σ tr := fun o o' => (hS.upd0 h4).upd0 (by rw [Store.upd_ne _ _ h54]; exact hn5)
    refine arun_plan [(0, 1), (3, 1), (1, 2), (2, 2), (4, 2), (5, 2), (6, 0), (7, 0)] [0, 3, 1, 2, 4, 5] mixed (by decide +kernel) (by decide +kernel) (by decide +kernel) ?_
    simp -implicitDefEqProofs only [setCells, h54, h54.symm, evb0, evb1, evb2, evb3, evb4, evb5, evb6, evb7, evb8, evb9, ↓evZ2, ↓evZ3, ↓Int.cast_ofNat_Int, implies_true, ne_eq, or_false, false_or, or_self, gt_iff_lt, isMut, aFn, List.contains, List.elem, aBox, aField, aLoad, sub, aNil, aPick, aExt, aFld, gd, noJunk, plainOp, aBuildSlice, aBuild, aFill, aParts, seqParts, fitAll, List.range', ↓reduceIte, reduceCtorEq, Nat.reduceEqDiff, Nat.reduceAdd, Nat.reduceLeDiff, Nat.reduceMul, Nat.reduceLT, Nat.reduceBEq, Int.reduceEq, tf_S4_70]
    refine callH_mk (hca _ (hS' _ _).sub) ?_
    simp -implicitDefEqProofs only [setCells, h54, h54.symm, evb0, evb1, evb2, evb3, evb4, evb5, evb6, evb7, evb8, evb9, ↓evZ2, ↓evZ3, ↓Int.cast_ofNat_Int, implies_true, ne_eq, or_false, false_or, or_self, gt_iff_lt, isMut, aFn, List.contains, List.elem, aBox, aField, aLoad, sub, aNil, aPick, aExt, aFld, gd, noJunk, plainOp, aBuildSlice, aBuild, aFill, aParts, seqParts, fitAll, List.range', ↓reduceIte, reduceCtorEq, Nat.reduceEqDiff, Nat.reduceAdd, Nat.reduceLeDiff, Nat.reduceMul, Nat.reduceLT, Nat.reduceBEq, Int.reduceEq, tf_S4_70]
    refine callH_mk (hcb _ (hS' _ _).sub) ?_
    obtain ⟨ka, na, sa, tsa⟩ := a1
    obtain ⟨kb, nb, sb', tsb⟩ := b1
    obtain ⟨hla, hlas⟩ := Tm.small_mk hsa
    obtain ⟨hlb, hlbs⟩ := Tm.small_mk hsb
    simp only [Tm.av_mk]
    simp only [Tm.k, Tm.n, Tm.s, Tm.ts] at h ea eb
    have hl4 : ∀ q', q' = q → b4 ∉ tbk q := fun _ _ hb => by obtain ⟨cs, e⟩ := hS.tb_some b4 hb; rw [h4] at e; cases e
    have hl5 : b5 ∉ tbk q := fun hb => by obtain ⟨cs, e⟩ := hS.tb_some b5 hb; rw [hn5] at e; cases e
    obtain ⟨h4c, h4m⟩ := hS.sub.ne h4
    obtain ⟨h5c, h5m⟩ := hS.sub.ne hn5
    have hQ : ∀ o o', StepQ c m st q ((st.upd b4 o).upd b5 o') q := fun o o' => ⟨fun x p h _ _ _ => by
      rw [Store.upd_ne _ _ (by rintro rfl; rw [hn5] at h; cases h), Store.upd_ne _ _ (by rintro rfl; rw [h4] at h; cases h)]; exact h, fun _ h => .inl h⟩
    simp -implicitDefEqProofs only [setCells, h54, h54.symm, evb0, evb1, evb2, evb3, evb4, evb5, evb6, evb7, evb8, evb9, ↓evZ2, ↓evZ3, ↓Int.cast_ofNat_Int, implies_true, ne_eq, or_false, false_or, or_self, gt_iff_lt, isMut, aFn, List.contains, List.elem, aBox, aField, aLoad, sub, aNil, aPick, aExt, aFld, gd, noJunk, plainOp, aBuildSlice, aBuild, aFill, aParts, seqParts, fitAll, List.range', ↓reduceIte, reduceCtorEq, Nat.reduceEqDiff, Nat.reduceAdd, Nat.reduceLeDiff, Nat.reduceMul, Nat.reduceLT, Nat.reduceBEq, Int.reduceEq, tf_S4_70]
    rw [Store.upd_mid h54, Store.upd_mid h54.symm]
    have hfin : ∀ o o', Post c m st q σ tr ((st.upd b4 o).upd b5 o') := fun o o' => ⟨q, hS' _ _, hQ _ _⟩
    rcases h with ⟨h1, h2, h3, rfl, rfl, rfl⟩ | ⟨h1, h2, h3⟩ | ⟨h1, h2, h3⟩ | ⟨h1, h2, h3, h4⟩ | ⟨h1, h2, h3, rfl, rfl, rfl⟩
    · subst h1 h2 h3
      simp -implicitDefEqProofs only [decide_true, setCells, h54, h54.symm, evb0, evb1, evb2, evb3, evb4, evb5, evb6, evb7, evb8, evb9, ↓evZ2, ↓evZ3, ↓Int.cast_ofNat_Int, implies_true, ne_eq, or_false, false_or, or_self, gt_iff_lt, isMut, aFn, List.contains, List.elem, aBox, aField, aLoad, sub, aNil, aPick, aExt, aFld, gd, noJunk, plainOp, aBuildSlice, aBuild, aFill, aParts, seqParts, fitAll, List.range', ↓reduceIte, reduceCtorEq, Nat.reduceEqDiff, Nat.reduceAdd, Nat.reduceLeDiff, Nat.reduceMul, Nat.reduceLT, Nat.reduceBEq, Int.reduceEq, tf_S4_70]
      exact hfin _ _
    · subst h1
      have hcb := c_bind hg (ea rfl) h3 c m q tr _ (hS' (.cells [.int .i64 1, .int .i64 na, .str sa, .slice (tsa.map Tm.av)]) (.cells [.int .i64 kb, .int .i64 nb, .str sb', .slice (tsb.map Tm.av)])) hl
      rw [Tm.av_mk] at hcb
      by_cases h5 : kb = 1
      · subst h5
        have h6 : ¬ na = nb := fun e => h2 ⟨rfl, e⟩
        simp -implicitDefEqProofs only [decide_true, h6, decide_false, setCells, h54, h54.symm, evb0, evb1, evb2, evb3, evb4, evb5, evb6, evb7, evb8, evb9, ↓evZ2, ↓evZ3, ↓Int.cast_ofNat_Int, implies_true, ne_eq, or_false, false_or, or_self, gt_iff_lt, isMut, aFn, List.contains, List.elem, aBox, aField, aLoad, sub, aNil, aPick, aExt, aFld, gd, noJunk, plainOp, aBuildSlice, aBuild, aFill, aParts, seqParts, fitAll, List.range', ↓reduceIte, reduceCtorEq, Nat.reduceEqDiff, Nat.reduceAdd, Nat.reduceLeDiff, Nat.reduceMul, Nat.reduceLT, Nat.reduceBEq, Int.reduceEq, tf_S4_70]
        refine hcb.mono ?_
        rintro _ s2 ⟨rfl, hp⟩
        simp -implicitDefEqProofs only [setCells, h54, h54.symm, evb0, evb1, evb2, evb3, evb4, evb5, evb6, evb7, evb8, evb9, ↓evZ2, ↓evZ3, ↓Int.cast_ofNat_Int, implies_true, ne_eq, or_false, false_or, or_self, gt_iff_lt, isMut, aFn, List.contains, List.elem, aBox, aField, aLoad, sub, aNil, aPick, aExt, aFld, gd, noJunk, plainOp, aBuildSlice, aBuild, aFill, aParts, seqParts, fitAll, List.range', ↓reduceIte, reduceCtorEq, Nat.reduceEqDiff, Nat.reduceAdd, Nat.reduceLeDiff, Nat.reduceMul, Nat.reduceLT, Nat.reduceBEq, Int.reduceEq, tf_S4_70]
        exact hp.from (hQ _ _) (hS' _ _)
      · simp -implicitDefEqProofs only [decide_true, h5, decide_false, setCells, h54, h54.symm, evb0, evb1, evb2, evb3, evb4, evb5, evb6, evb7, evb8, evb9, ↓evZ2, ↓evZ3, ↓Int.cast_ofNat_Int, implies_true, ne_eq, or_false, false_or, or_self, gt_iff_lt, isMut, aFn, List.contains, List.elem, aBox, aField, aLoad, sub, aNil, aPick, aExt, aFld, gd, noJunk, plainOp, aBuildSlice, aBuild, aFill, aParts, seqParts, fitAll, List.range', ↓reduceIte, reduceCtorEq, Nat.reduceEqDiff, Nat.reduceAdd, Nat.reduceLeDiff, Nat.reduceMul, Nat.reduceLT, Nat.reduceBEq, Int.reduceEq, tf_S4_70]
        refine hcb.mono ?_
        rintro _ s2 ⟨rfl, hp⟩
        simp -implicitDefEqProofs only [setCells, h54, h54.symm, evb0, evb1, evb2, evb3, evb4, evb5, evb6, evb7, evb8, evb9, ↓evZ2, ↓evZ3, ↓Int.cast_ofNat_Int, implies_true, ne_eq, or_false, false_or, or_self, gt_iff_lt, isMut, aFn, List.contains, List.elem, aBox, aField, aLoad, sub, aNil, aPick, aExt, aFld, gd, noJunk, plainOp, aBuildSlice, aBuild, aFill, aParts, seqParts, fitAll, List.range', ↓reduceIte, reduceCtorEq, Nat.reduceEqDiff, Nat.reduceAdd, Nat.reduceLeDiff, Nat.reduceMul, Nat.reduceLT, Nat.reduceBEq, Int.reduceEq, tf_S4_70]
        exact hp.from (hQ _ _) (hS' _ _)
    · subst h2
      have hcb := c_bind hg (eb rfl) h3 c m q tr _ (hS' (.cells [.int .i64 ka, .int .i64 na, .str sa, .slice (tsa.map Tm.av)]) (.cells [.int .i64 1, .int .i64 nb, .str sb', .slice (tsb.map Tm.av)])) hl
      rw [Tm.av_mk] at hcb
      simp -implicitDefEqProofs only [decide_true, h1, decide_false, setCells, h54, h54.symm, evb0, evb1, evb2, evb3, evb4, evb5, evb6, evb7, evb8, evb9, ↓evZ2, ↓evZ3, ↓Int.cast_ofNat_Int, implies_true, ne_eq, or_false, false_or, or_self, gt_iff_lt, isMut, aFn, List.contains, List.elem, aBox, aField, aLoad, sub, aNil, aPick, aExt, aFld, gd, noJunk, plainOp, aBuildSlice, aBuild, aFill, aParts, seqParts, fitAll, List.range', ↓reduceIte, reduceCtorEq, Nat.reduceEqDiff, Nat.reduceAdd, Nat.reduceLeDiff, Nat.reduceMul, Nat.reduceLT, Nat.reduceBEq, Int.reduceEq, tf_S4_70]
      refine hcb.mono ?_
      rintro _ s2 ⟨rfl, hp⟩
      simp -implicitDefEqProofs only [setCells, h54, h54.symm, evb0, evb1, evb2, evb3, evb4, evb5, evb6, evb7, evb8, evb9, ↓evZ2, ↓evZ3, ↓Int.cast_ofNat_Int, implies_true, ne_eq, or_false, false_or, or_self, gt_iff_lt, isMut, aFn, List.contains, List.elem, aBox, aField, aLoad, sub, aNil, aPick, aExt, aFld, gd, noJunk, plainOp, aBuildSlice, aBuild, aFill, aParts, seqParts, fitAll, List.range', ↓reduceIte, reduceCtorEq, Nat.reduceEqDiff, Nat.reduceAdd, Nat.reduceLeDiff, Nat.reduceMul, Nat.reduceLT, Nat.reduceBEq, Int.reduceEq, tf_S4_70]
      exact hp.from (hQ _ _) (hS' _ _)
    · rw [headEq_iff] at h3
      simp only [Tm.k, Tm.n, Tm.s, Tm.ts] at h3
      obtain ⟨rfl, rfl, rfl, hlen⟩ := h3
      have hlen' : decide ((tsa.length : Int) = (tsb.length : Int)) = true := by simp [hlen]
      simp -implicitDefEqProofs only [decide_true, decide_false, hlen', setCells, h54, h54.symm, List.length_map, h1, evb0, evb1, evb2, evb3, evb4, evb5, evb6, evb7, evb8, evb9, ↓evZ2, ↓evZ3, ↓Int.cast_ofNat_Int, implies_true, ne_eq, or_false, false_or, or_self, gt_iff_lt, isMut, aFn, List.contains, List.elem, aBox, aField, aLoad, sub, aNil, aPick, aExt, aFld, gd, noJunk, plainOp, aBuildSlice, aBuild, aFill, aParts, seqParts, fitAll, List.range', ↓reduceIte, reduceCtorEq, Nat.reduceEqDiff, Nat.reduceAdd, Nat.reduceLeDiff, Nat.reduceMul, Nat.reduceLT, Nat.reduceBEq, Int.reduceEq, tf_S4_70]
      have hS0 := hS' (.cells [.int .i64 ka, .int .i64 na, .str sa, .slice (tsa.map Tm.av)]) (.cells [.int .i64 ka, .int .i64 na, .str sa, .slice (tsb.map Tm.av)])
      have hQ0 := hQ (.cells [.int .i64 ka, .int .i64 na, .str sa, .slice (tsa.map Tm.av)]) (.cells [.int .i64 ka, .int .i64 na, .str sa, .slice (tsb.map Tm.av)])
      have e4 : ((st.upd b4 (.cells [.int .i64 ka, .int .i64 na, .str sa, .slice (tsa.map Tm.av)])).upd b5 (.cells [.int .i64 ka, .int .i64 na, .str sa, .slice (tsb.map Tm.av)])) b4 = some (.cells [.int .i64 ka, .int .i64 na, .str sa, .slice (tsa.map Tm.av)]) := by rw [Store.upd_ne _ _ h54.symm, Store.upd_same]
      have e5 : ((st.upd b4 (.cells [.int .i64 ka, .int .i64 na, .str sa, .slice (tsa.map Tm.av)])).upd b5 (.cells [.int .i64 ka, .int .i64 na, .str sa, .slice (tsb.map Tm.av)])) b5 = some (.cells [.int .i64 ka, .int .i64 na, .str sa, .slice (tsb.map Tm.av)]) := Store.upd_same _ _ _
      generalize (st.upd b4 (.cells [.int .i64 ka, .int .i64 na, .str sa, .slice (tsa.map Tm.av)])).upd b5 (.cells [.int .i64 ka, .int .i64 na, .str sa, .slice (tsb.map Tm.av)]) = s0 at *
      refine arun_each (σ := Sub × List Int × List Int × AV × Store) [1000000, 4, 5] [0, 4, 5, 79] tsa
        (fun i p => IsGood p.1 ∧ AllS Sm p.1 ∧ Sto p.2.2.2.2 c m p.2.2.2.1 p.1 (tr ++ p.2.1) ∧ StepQ c m s0 q p.2.2.2.2 p.2.2.2.1 ∧ unisF g p.1 (tsa.drop i) (tsb.drop i) = some (r, σ', p.2.2.1) ∧ p.2.1 ++ p.2.2.1 = add)
        (fun i _ => [(6, .bool false), (80, .int .i64 i)]) (fun _ p => p.2.2.2.2) (by decide +kernel)
        ⟨(σ, [], add, q, s0), ⟨hg, hsm, by rw [List.append_nil]; exact hS0, StepQ.refl _ _ _ _, h4, rfl⟩, LessL.mk (by simp -implicitDefEqProofs only [setCells, h54, h54.symm, List.length_map, h1, evb0, evb1, evb2, evb3, evb4, evb5, evb6, evb7, evb8, evb9, ↓evZ2, ↓evZ3, ↓Int.cast_ofNat_Int, implies_true, ne_eq, or_false, false_or, or_self, gt_iff_lt, isMut, aFn, List.contains, List.elem, aBox, aField, aLoad, sub, aNil, aPick, aExt, aFld, gd, noJunk, plainOp, aBuildSlice, aBuild, aFill, aParts, seqParts, fitAll, List.range', ↓reduceIte, reduceCtorEq, Nat.reduceEqDiff, Nat.reduceAdd, Nat.reduceLeDiff, Nat.reduceMul, Nat.reduceLT, Nat.reduceBEq, Int.reduceEq, tf_S4_70])⟩ (fun i x p hx hlt hlt' hdr hinv => ?_) (fun p hge hinv => ?_)
      case refine_2 =>
        obtain ⟨σi, ai, rest, qi, si⟩ := p
        obtain ⟨i1, i2, i3, i4, i5, i6⟩ := hinv
        simp only at i1 i2 i3 i4 i5 i6
        rw [List.drop_length, hlen, List.drop_length] at i5
        simp only [unisF, Option.some.injEq, Prod.mk.injEq] at i5
        obtain ⟨rfl, rfl, rfl⟩ := i5
        rw [List.append_nil] at i6
        subst i6
        simp -implicitDefEqProofs only [hge, setCells, h54, h54.symm, List.length_map, h1, evb0, evb1, evb2, evb3, evb4, evb5, evb6, evb7, evb8, evb9, ↓evZ2, ↓evZ3, ↓Int.cast_ofNat_Int, implies_true, ne_eq, or_false, false_or, or_self, gt_iff_lt, isMut, aFn, List.contains, List.elem, aBox, aField, aLoad, sub, aNil, aPick, aExt, aFld, gd, noJunk, plainOp, aBuildSlice, aBuild, aFill, aParts, seqParts, fitAll, List.range', ↓reduceIte, reduceCtorEq, Nat.reduceEqDiff, Nat.reduceAdd, Nat.reduceLeDiff, Nat.reduceMul, Nat.reduceLT, Nat.reduceBEq, Int.reduceEq, tf_S4_70]
        exact ⟨qi, i3, hQ0.trans hS0 i4⟩
      obtain ⟨σi, ai, rest, qi, si⟩ := p
      obtain ⟨i1, i2, i3, i4, i5, i6⟩ := hinv
      simp only at i1 i2 i3 i4 i5 i6
      obtain ⟨y, hy⟩ : ∃ y, tsb[i]? = some y := ⟨_, List.getElem?_eq_getElem (by omega)⟩
      have hdr' : tsb.drop i = y :: tsb.drop (i + 1) := by
        obtain ⟨h1, h2⟩ := List.getElem?_eq_some_iff.1 hy
        rw [List.drop_eq_getElem_cons h1, h2]
      rw [hdr, hdr', unisF] at i5
      have f4 := i4.frame b4 _ e4 h4c h4m (hl4 q rfl)
      have f5 := i4.frame b5 _ e5 h5c h5m hl5
      have hw := wrap64 (n := (i : Int) + 1) (by omega) (by omega)
      simp -implicitDefEqProofs only [hlt', setCells, h54, h54.symm, List.length_map, h1, f4, f5, ev_at (av := Tm.av) eI_27 hx (Tm.av_width x), ev_at (av := Tm.av) eI_27 hy (Tm.av_width y), evb0, evb1, evb2, evb3, evb4, evb5, evb6, evb7, evb8, evb9, ↓evZ2, ↓evZ3, ↓Int.cast_ofNat_Int, implies_true, ne_eq, or_false, false_or, or_self, gt_iff_lt, isMut, aFn, List.contains, List.elem, aBox, aField, aLoad, sub, aNil, aPick, aExt, aFld, gd, noJunk, plainOp, aBuildSlice, aBuild, aFill, aParts, seqParts, fitAll, List.range', ↓reduceIte, reduceCtorEq, Nat.reduceEqDiff, Nat.reduceAdd, Nat.reduceLeDiff, Nat.reduceMul, Nat.reduceLT, Nat.reduceBEq, Int.reduceEq, tf_S4_70]
      refine arun_plan [(0, 1), (1, 1), (3, 1), (6, 1), (8, 1), (2, 2), (4, 1), (5, 2), (7, 2), (9, 1), (10, 2), (11, 0), (12, 1)] [0, 1, 3, 6, 8, 2, 4, 5, 7, 9, 10, 12] mixed (by decide +kernel) (by decide +kernel) (by decide +kernel) ?_
      simp -implicitDefEqProofs only [setCells, h54, h54.symm, List.length_map, h1, f4, f5, ev_at (av := Tm.av) eI_27 hx (Tm.av_width x), ev_at (av := Tm.av) eI_27 hy (Tm.av_width y), evb0, evb1, evb2, evb3, evb4, evb5, evb6, evb7, evb8, evb9, ↓evZ2, ↓evZ3, ↓Int.cast_ofNat_Int, implies_true, ne_eq, or_false, false_or, or_self, gt_iff_lt, isMut, aFn, List.contains, List.elem, aBox, aField, aLoad, sub, aNil, aPick, aExt, aFld, gd, noJunk, plainOp, aBuildSlice, aBuild, aFill, aParts, seqParts, fitAll, List.range', ↓reduceIte, reduceCtorEq, Nat.reduceEqDiff, Nat.reduceAdd, Nat.reduceLeDiff, Nat.reduceMul, Nat.reduceLT, Nat.reduceBEq, Int.reduceEq, tf_S4_70]
      cases hu : uniF g σi x y with
      | none => rw [hu] at i5; cases i5
      | some p1 =>
        obtain ⟨r1, σ1, tr1⟩ := p1
        rw [hu] at i5
        have hx1 : Sm x := hlas x (List.mem_of_getElem? hx)
        have hy1 : Sm y := hlbs y (List.mem_of_getElem? hy)
        have hU := uniF_uni i1 hu
        have hA := (uni_all sm_kids g).1 σi x y r1 σ1 tr1 i1 hu i2 hx1 hy1
        have hsub : tr1.length ≤ rest.length := by
          cases r1 with
          | false => simp only [Option.some.injEq, Prod.mk.injEq] at i5; rw [i5.2.2]; exact Nat.le_refl _
          | true =>
            simp only at i5
            cases hu2 : unisF g σ1 (tsa.drop (i + 1)) (tsb.drop (i + 1)) with
            | none => rw [hu2] at i5; cases i5
            | some p2 =>
              obtain ⟨r2, σ2, tr2⟩ := p2
              rw [hu2] at i5
              simp only [Option.some.injEq, Prod.mk.injEq] at i5
              rw [← i5.2.2, List.length_append]; omega
        have hadd : add.length = ai.length + rest.length := by rw [← i6, List.length_append]
        refine (IH σi x y r1 σ1 tr1 i1 i2 hx1 hy1 hu c m qi (tr ++ ai) si i3 (by rw [List.length_append]; omega)).mono ?_
        rintro _ s2 ⟨rfl, q2, hS2, hQ2⟩
        cases r1 with
        | false =>
          simp only [Option.some.injEq, Prod.mk.injEq] at i5
          obtain ⟨rfl, rfl, rfl⟩ := i5
          simp -implicitDefEqProofs only [setCells, h54, h54.symm, List.length_map, h1, f4, f5, ev_at (av := Tm.av) eI_27 hx (Tm.av_width x), ev_at (av := Tm.av) eI_27 hy (Tm.av_width y), evb0, evb1, evb2, evb3, evb4, evb5, evb6, evb7, evb8, evb9, ↓evZ2, ↓evZ3, ↓Int.cast_ofNat_Int, implies_true, ne_eq, or_false, false_or, or_self, gt_iff_lt, isMut, aFn, List.contains, List.elem, aBox, aField, aLoad, sub, aNil, aPick, aExt, aFld, gd, noJunk, plainOp, aBuildSlice, aBuild, aFill, aParts, seqParts, fitAll, List.range', ↓reduceIte, reduceCtorEq, Nat.reduceEqDiff, Nat.reduceAdd, Nat.reduceLeDiff, Nat.reduceMul, Nat.reduceLT, Nat.reduceBEq, Int.reduceEq, tf_S4_70]
          rw [← i6, ← List.append_assoc]
          exact ⟨q2, hS2, hQ0.trans hS0 (i4.trans i3 hQ2)⟩
        | true =>
          simp only at i5
          cases hu2 : unisF g σ1 (tsa.drop (i + 1)) (tsb.drop (i + 1)) with
          | none => rw [hu2] at i5; cases i5
          | some p2 =>
            obtain ⟨r2, σ2, tr2⟩ := p2
            rw [hu2] at i5
            simp only [Option.some.injEq, Prod.mk.injEq] at i5
            obtain ⟨rfl, rfl, rfl⟩ := i5
            simp -implicitDefEqProofs only [setCells, h54, h54.symm, List.length_map, h1, f4, f5, ev_at (av := Tm.av) eI_27 hx (Tm.av_width x), ev_at (av := Tm.av) eI_27 hy (Tm.av_width y), evb0, evb1, evb2, evb3, evb4, evb5, evb6, evb7, evb8, evb9, ↓evZ2, ↓evZ3, ↓Int.cast_ofNat_Int, implies_true, ne_eq, or_false, false_or, or_self, gt_iff_lt, isMut, aFn, List.contains, List.elem, aBox, aField, aLoad, sub, aNil, aPick, aExt, aFld, gd, noJunk, plainOp, aBuildSlice, aBuild, aFill, aParts, seqParts, fitAll, List.range', ↓reduceIte, reduceCtorEq, Nat.reduceEqDiff, Nat.reduceAdd, Nat.reduceLeDiff, Nat.reduceMul, Nat.reduceLT, Nat.reduceBEq, Int.reduceEq, tf_S4_70]
            exact ⟨(σ1, ai ++ tr1, tr2, q2, s2), ⟨hU.good, hA, by rw [← List.append_assoc]; exact hS2, i4.trans i3 hQ2, hu2, by rw [List.append_assoc]; exact i6⟩, LessL.mk (by simp -implicitDefEqProofs only [hw, setCells, h54, h54.symm, List.length_map, h1, f4, f5, ev_at (av := Tm.av) eI_27 hx (Tm.av_width x), ev_at (av := Tm.av) eI_27 hy (Tm.av_width y), evb0, evb1, evb2, evb3, evb4, evb5, evb6, evb7, evb8, evb9, ↓evZ2, ↓evZ3, ↓Int.cast_ofNat_Int, implies_true, ne_eq, or_false, false_or, or_self, gt_iff_lt, isMut, aFn, List.contains, List.elem, aBox, aField, aLoad, sub, aNil, aPick, aExt, aFld, gd, noJunk, plainOp, aBuildSlice, aBuild, aFill, aParts, seqParts, fitAll, List.range', ↓reduceIte, reduceCtorEq, Nat.reduceEqDiff, Nat.reduceAdd, Nat.reduceLeDiff, Nat.reduceMul, Nat.reduceLT, Nat.reduceBEq, Int.reduceEq, tf_S4_70])⟩
    · have hd : ka = kb → na = nb → sa = sb' → ¬ (tsa.length : Int) = (tsb.length : Int) := by
        intro e1 e2 e3 e4
        have : headEq (Tm.mk ka na sa tsa) (Tm.mk kb nb sb' tsb) = true := headEq_iff.2 ⟨e1, e2, e3, by simp only [Tm.ts]; omega⟩
        rw [h3] at this; cases this
      by_cases e1 : ka = kb
      · by_cases e2 : na = nb
        · by_cases e3 : sa = sb'
          · have e4 := hd e1 e2 e3
            subst e1 e2 e3
            simp -implicitDefEqProofs only [decide_false, decide_true, setCells, h54, h54.symm, h1, List.length_map, e4, evb0, evb1, evb2, evb3, evb4, evb5, evb6, evb7, evb8, evb9, ↓evZ2, ↓evZ3, ↓Int.cast_ofNat_Int, implies_true, ne_eq, or_false, false_or, or_self, gt_iff_lt, isMut, aFn, List.contains, List.elem, aBox, aField, aLoad, sub, aNil, aPick, aExt, aFld, gd, noJunk, plainOp, aBuildSlice, aBuild, aFill, aParts, seqParts, fitAll, List.range', ↓reduceIte, reduceCtorEq, Nat.reduceEqDiff, Nat.reduceAdd, Nat.reduceLeDiff, Nat.reduceMul, Nat.reduceLT, Nat.reduceBEq, Int.reduceEq, tf_S4_70]
            exact hfin _ _
          · subst e1 e2
            simp -implicitDefEqProofs only [decide_false, decide_true, setCells, h54, h54.symm, h1, List.length_map, e3, evb0, evb1, evb2, evb3, evb4, evb5, evb6, evb7, evb8, evb9, ↓evZ2, ↓evZ3, ↓Int.cast_ofNat_Int, implies_true, ne_eq, or_false, false_or, or_self, gt_iff_lt, isMut, aFn, List.contains, List.elem, aBox, aField, aLoad, sub, aNil, aPick, aExt, aFld, gd, noJunk, plainOp, aBuildSlice, aBuild, aFill, aParts, seqParts, fitAll, List.range', ↓reduceIte, reduceCtorEq, Nat.reduceEqDiff, Nat.reduceAdd, Nat.reduceLeDiff, Nat.reduceMul, Nat.reduceLT, Nat.reduceBEq, Int.reduceEq, tf_S4_70]
            exact hfin _ _
        · subst e1
          simp -implicitDefEqProofs only [decide_false, decide_true, setCells, h54, h54.symm, h1, List.length_map, e2, evb0, evb1, evb2, evb3, evb4, evb5, evb6, evb7, evb8, evb9, ↓evZ2, ↓evZ3, ↓Int.cast_ofNat_Int, implies_true, ne_eq, or_false, false_or, or_self, gt_iff_lt, isMut, aFn, List.contains, List.elem, aBox, aField, aLoad, sub, aNil, aPick, aExt, aFld, gd, noJunk, plainOp, aBuildSlice, aBuild, aFill, aParts, seqParts, fitAll, List.range', ↓reduceIte, reduceCtorEq, Nat.reduceEqDiff, Nat.reduceAdd, Nat.reduceLeDiff, Nat.reduceMul, Nat.reduceLT, Nat.reduceBEq, Int.reduceEq, tf_S4_70]
          exact hfin _ _
      · clear hd
        simp -implicitDefEqProofs only [decide_false, decide_true, setCells, h54, h54.symm, h1, h2, List.length_map, e1, evb0, evb1, evb2, evb3, evb4, evb5, evb6, evb7, evb8, evb9, ↓evZ2, ↓evZ3, ↓Int.cast_ofNat_Int, implies_true, ne_eq, or_false, false_or, or_self, gt_iff_lt, isMut, aFn, List.contains, List.elem, aBox, aField, aLoad, sub, aNil, aPick, aExt, aFld, gd, noJunk, plainOp, aBuildSlice, aBuild, aFill, aParts, seqParts, fitAll, List.range', ↓reduceIte, reduceCtorEq, Nat.reduceEqDiff, Nat.reduceAdd, Nat.reduceLeDiff, Nat.reduceMul, Nat.reduceLT, Nat.reduceBEq, Int.reduceEq, tf_S4_70]
        exact hfin _ _
end Go.AW


/- The program's store of bindings: what a term stands for. -/
namespace Go.AW
open Go.Proofs.Try
set_option linter.unusedSimpArgs false
set_option maxRecDepth 100000

/-- What resolving leaves: the term, or nothing if it is too large. -/
def Rsv (v : Tm) (D : Nat) (cnt cb : Nat) (st : Store) (r : AV) (st' : Store) : Prop :=
  ∃ cnt' : Nat, cnt' ≤ 121 ∧ st' = st.upd cb (.cells [.int .i64 cnt']) ∧
    if v.flat D = true ∧ cnt + v.nodes ≤ 120 then r = .tup [v.av, .bool true] ∧ cnt' = cnt + v.nodes else r = .tup [Tm.zero.av, .bool false]

theorem sumL_append {α : Type} (f : α → Nat) : ∀ l m : List α, sumL f (l ++ m) = sumL f l + sumL f m
  | [], m => by simp [sumL]
  | x :: l, m => by simp only [List.cons_append, sumL, sumL_append f l m]; omega
abbrev Cv (t : Tm) : Prop := t.cv = true
theorem good_walked {σ : Sub} {R : Int → Tm} {rk : Int → Nat} {B f : Nat} (G : Good σ R rk B) {t : Tm} {k n : Int} {s : ByteArray} {ts : List Tm} (hw : WkN σ f t (.mk k n s ts)) (hc : Cv (.mk k n s ts)) : t.mapv R = .mk k n s (ts.map (Tm.mapv R)) := by
  rw [← hw.mapv G.isSol]
  by_cases hk : k = 1
  · rw [Tm.mapv_var R hk, G.free (show σ n = none from hw.end hk)]
    obtain ⟨h1, _⟩ := Tm.cv_mk.1 hc
    obtain ⟨rfl, rfl⟩ := h1 hk
    rw [hk]; rfl
  · rw [Tm.mapv_mk R hk]

theorem tf_S5_171 : (type_of% tI_2) ∧ (type_of% zI_2) ∧ (type_of% Go.Proofs.Try.underlying2) ∧ (type_of% tI_3) ∧ (type_of% zI_3) ∧ (type_of% Go.Proofs.Try.underlying3) ∧ (type_of% tI_4) ∧ (type_of% zI_4) ∧ (type_of% Go.Proofs.Try.underlying4) ∧ (type_of% tI_5) ∧ (type_of% zI_5) ∧ (type_of% Go.Proofs.Try.underlying5) ∧ (type_of% tI_6) ∧ (type_of% zI_6) ∧ (type_of% Go.Proofs.Try.underlying6) ∧ (type_of% tI_7) ∧ (type_of% zI_7) ∧ (type_of% fI_7_0) ∧ (type_of% fI_7_1) ∧ (type_of% fI_7_2) ∧ (type_of% fI_7_3) ∧ (type_of% bI_7) ∧ (type_of% tI_8) ∧ (type_of% zI_8) ∧ (type_of% fI_8_0) ∧ (type_of% fI_8_1) ∧ (type_of% fI_8_2) ∧ (type_of% fI_8_3) ∧ (type_of% bI_8) ∧ (type_of% tI_9) ∧ (type_of% zI_9) ∧ (type_of% Go.Proofs.Try.underlying9) ∧ (type_of% tI_10) ∧ (type_of% zI_10) ∧ (type_of% Go.Proofs.Try.underlying10) ∧ (type_of% tI_11) ∧ (type_of% zI_11) ∧ (type_of% Go.Proofs.Try.underlying11) ∧ (type_of% tI_12) ∧ (type_of% zI_12) ∧ (type_of% Go.Proofs.Try.underlying12) ∧ (type_of% tI_13) ∧ (type_of% zI_13) ∧ (type_of% fI_13_0) ∧ (type_of% fI_13_1) ∧ (type_of% bI_13) ∧ (type_of% tI_14) ∧ (type_of% zI_14) ∧ (type_of% fI_14_0) ∧ (type_of% fI_14_1) ∧ (type_of% bI_14) ∧ (type_of% tI_15) ∧ (type_of% zI_15) ∧ (type_of% tI_16) ∧ (type_of% zI_16) ∧ (type_of% tI_17) ∧ (type_of% zI_17) ∧ (type_of% tI_27) ∧ (type_of% zI_27) ∧ (type_of% eI_27) ∧ (type_of% eB_27) ∧ (type_of% eZ_27) ∧ (type_of% Go.Proofs.Try.underlying27) ∧ (type_of% tI_40) ∧ (type_of% zI_40) ∧ (type_of% fI_40_0) ∧ (type_of% fI_40_1) ∧ (type_of% fI_40_2) ∧ (type_of% fI_40_3) ∧ (type_of% bI_40) ∧ (type_of% tI_41) ∧ (type_of% zI_41) ∧ (type_of% fI_41_0) ∧ (type_of% fI_41_1) ∧ (type_of% fI_41_2) ∧ (type_of% fI_41_3) ∧ (type_of% bI_41) ∧ (type_of% tI_62) ∧ (type_of% zI_62) ∧ (type_of% eI_62) ∧ (type_of% eB_62) ∧ (type_of% eZ_62) ∧ (type_of% Go.Proofs.Try.underlying62) ∧ (type_of% tI_64) ∧ (type_of% zI_64) ∧ (type_of% fI_64_0) ∧ (type_of% fI_64_1) ∧ (type_of% bI_64) ∧ (type_of% tI_102) ∧ (type_of% zI_102) ∧ (type_of% tI_111) ∧ (type_of% zI_111) ∧ (type_of% tI_120) ∧ (type_of% zI_120) ∧ (type_of% fI_120_0) ∧ (type_of% fI_120_1) ∧ (type_of% fI_120_2) ∧ (type_of% fI_120_3) ∧ (type_of% fI_120_4) ∧ (type_of% fI_120_5) ∧ (type_of% fI_120_6) ∧ (type_of% bI_120) ∧ (type_of% tI_171) ∧ (type_of% zI_171) ∧ (type_of% fI_171_0) ∧ (type_of% fI_171_1) ∧ (type_of% fI_171_2) ∧ (type_of% fI_171_3) ∧ (type_of% fI_171_4) ∧ (type_of% fI_171_5) ∧ (type_of% fI_171_6) ∧ (type_of% bI_171) := ⟨tI_2, zI_2, Go.Proofs.Try.underlying2, tI_3, zI_3, Go.Proofs.Try.underlying3, tI_4, zI_4, Go.Proofs.Try.underlying4, tI_5, zI_5, Go.Proofs.Try.underlying5, tI_6, zI_6, Go.Proofs.Try.underlying6, tI_7, zI_7, fI_7_0, fI_7_1, fI_7_2, fI_7_3, bI_7, tI_8, zI_8, fI_8_0, fI_8_1, fI_8_2, fI_8_3, bI_8, tI_9, zI_9, Go.Proofs.Try.underlying9, tI_10, zI_10, Go.Proofs.Try.underlying10, tI_11, zI_11, Go.Proofs.Try.underlying11, tI_12, zI_12, Go.Proofs.Try.underlying12, tI_13, zI_13, fI_13_0, fI_13_1, bI_13, tI_14, zI_14, fI_14_0, fI_14_1, bI_14, tI_15, zI_15, tI_16, zI_16, tI_17, zI_17, tI_27, zI_27, eI_27, eB_27, eZ_27, Go.Proofs.Try.underlying27, tI_40, zI_40, fI_40_0, fI_40_1, fI_40_2, fI_40_3, bI_40, tI_41, zI_41, fI_41_0, fI_41_1, fI_41_2, fI_41_3, bI_41, tI_62, zI_62, eI_62, eB_62, eZ_62, Go.Proofs.Try.underlying62, tI_64, zI_64, fI_64_0, fI_64_1, bI_64, tI_102, zI_102, tI_111, zI_111, tI_120, zI_120, fI_120_0, fI_120_1, fI_120_2, fI_120_3, fI_120_4, fI_120_5, fI_120_6, bI_120, tI_171, zI_171, fI_171_0, fI_171_1, fI_171_2, fI_171_3, fI_171_4, fI_171_5, fI_171_6, bI_171⟩
theorem c_resolving {σ : Sub} {R : Int → Tm} {rk : Int → Nat} {B : Nat} (G : Good σ R rk B) (hcv : AllS Cv σ) (hsm : AllS Sm σ) (c m cb : Nat) (q : AV) (hcb : cb ≠ c ∧ cb ≠ m) :
    ∀ (D : Nat) (t : Tm) (cnt : Nat) (st : Store), D ≤ 31 → Cv t → Sm t → cnt ≤ 120 → SubAt st c m q σ → st cb = some (.cells [.int .i64 cnt]) →
    ACalls prog 171 [.ptr c 0, t.av, .int .i64 (31 - D : Int), .ptr cb 0] st (Rsv (t.mapv R) D cnt cb st)
  | D, t, cnt, st, hD, hct, hst, hcnt, hS, hC => by
    have IH := fun (D' : Nat) (hlt : D' < D) (x : Tm) cnt st => c_resolving G hcv hsm c m cb q hcb D' x cnt st
    obtain ⟨f, hw⟩ := G.wk t
    generalize wk σ t = u at *
    have hcu := hw.all (p := Cv) hcv hct
    have hsu := hw.all (p := Sm) hsm hst
    have hcw := fun st (hS : SubAt st c m q σ) => c_walk hw c m q st hS
    obtain ⟨k, n, s, ts⟩ := u
    have hv := good_walked G hw hcu
    rw [hv]
    obtain ⟨hlen, hsms⟩ := Tm.small_mk hsu
    obtain ⟨_, hcvs⟩ := Tm.cv_mk.1 hcu
    refine ACalls.dropS (ACalls.fin ?_)
    refine acalls_fit [1000000, 5, 10] func171 ntmps171 rfl rfl (by kernel_rfl) (by decide +kernel) (by show 4 ≤ _; decide +kernel) ?_
    intro _
    simp -implicitDefEqProofs only [setCells, evb0, evb1, evb2, evb3, evb4, evb5, evb6, evb7, evb8, evb9, ↓evZ2, ↓evZ3, ↓Int.cast_ofNat_Int, implies_true, ne_eq, or_false, false_or, or_self, gt_iff_lt, isMut, aFn, List.contains, List.elem, aBox, aField, aLoad, sub, aNil, aPick, aExt, aFld, gd, noJunk, plainOp, aBuildSlice, aBuild, aFill, aParts, seqParts, fitAll, List.range', ↓reduceIte, reduceCtorEq, Nat.reduceEqDiff, Nat.reduceAdd, Nat.reduceLeDiff, Nat.reduceMul, Nat.reduceLT, Nat.reduceBEq, Int.reduceEq, tf_S5_171]
    intro b5 h5 b8 h8
    have h85 : b8 ≠ b5 := by rintro rfl; rw [Store.upd_same] at h8; cases h8
    have hn8 : st b8 = none := by rw [Store.upd_ne st _ h85] at h8; exact h8
    have hS' : ∀ o o', SubAt ((st.upd b5 o).upd b8 o') c m q σ := fun o o' => (hS.upd h5).upd (by rw [Store.upd_ne _ _ h85]; exact hn8)
    have hb5 : cb ≠ b5 := by rintro rfl; rw [hC] at h5; cases h5
    have hb8 : cb ≠ b8 := by rintro rfl; rw [hC] at hn8; cases hn8
    have hwc : IntKind.i64.wrap ((cnt : Int) + 1) = (cnt : Int) + 1 := wrap64 (by omega) (by omega)
    simp -implicitDefEqProofs only [setCells, h85, h85.symm, hb5, hb8, hb5.symm, hb8.symm, hC, hwc, evb0, evb1, evb2, evb3, evb4, evb5, evb6, evb7, evb8, evb9, ↓evZ2, ↓evZ3, ↓Int.cast_ofNat_Int, implies_true, ne_eq, or_false, false_or, or_self, gt_iff_lt, isMut, aFn, List.contains, List.elem, aBox, aField, aLoad, sub, aNil, aPick, aExt, aFld, gd, noJunk, plainOp, aBuildSlice, aBuild, aFill, aParts, seqParts, fitAll, List.range', ↓reduceIte, reduceCtorEq, Nat.reduceEqDiff, Nat.reduceAdd, Nat.reduceLeDiff, Nat.reduceMul, Nat.reduceLT, Nat.reduceBEq, Int.reduceEq, tf_S5_171]
    refine (hcw _ (hS' _ _)).to ?_
    simp only [Tm.av_mk]
    simp -implicitDefEqProofs only [setCells, h85, h85.symm, hb5, hb8, hb5.symm, hb8.symm, hC, hwc, evb0, evb1, evb2, evb3, evb4, evb5, evb6, evb7, evb8, evb9, ↓evZ2, ↓evZ3, ↓Int.cast_ofNat_Int, implies_true, ne_eq, or_false, false_or, or_self, gt_iff_lt, isMut, aFn, List.contains, List.elem, aBox, aField, aLoad, sub, aNil, aPick, aExt, aFld, gd, noJunk, plainOp, aBuildSlice, aBuild, aFill, aParts, seqParts, fitAll, List.range', ↓reduceIte, reduceCtorEq, Nat.reduceEqDiff, Nat.reduceAdd, Nat.reduceLeDiff, Nat.reduceMul, Nat.reduceLT, Nat.reduceBEq, Int.reduceEq, tf_S5_171]
    have hfail : ∀ (st' : Store) (cnt' : Nat), cnt' ≤ 121 → Drops st' (st.upd cb (.cells [.int .i64 cnt'])) → ¬ ((Tm.mk k n s (ts.map (Tm.mapv R))).flat D = true ∧ cnt + (Tm.mk k n s (ts.map (Tm.mapv R))).nodes ≤ 120) →
        ∃ b l s0, st' = accS s0 b l ∧ (l ≠ [] → s0 b = none) ∧ (∀ e ∈ l, e.isJunk = false) ∧ Even l ∧ ∃ s2, Drops s0 s2 ∧ Rsv (Tm.mk k n s (ts.map (Tm.mapv R))) D cnt cb st (AV.fin b l (.tup [.agg [.int .i64 0, .int .i64 0, .str ⟨#[]⟩, .fslice []], .bool false])) s2 := fun st' cnt' h1 h2 h3 => by
      refine ⟨0, [], st', rfl, by simp, by simp, ⟨4, by simp⟩, _, h2, cnt', h1, rfl, ?_⟩
      rw [if_neg h3]
      simp only [Tm.zero, Tm.av_mk, fin_agg, fin_tup, fin_int, fin_bool, fin_str, fin_slice, fin_fslice, fin_pptr, fin_ptr, fin_func, fin_map, fin_undef, fin_accV, tm_fin, List.map_cons, List.map_nil]
    have hdr : ∀ o5 o8 o5' o8' cnt', Drops (((((st.upd b5 o5).upd b8 o8).upd b5 o5').upd cb (.cells [.int .i64 cnt'])).upd b8 o8') (st.upd cb (.cells [.int .i64 cnt'])) := fun o5 o8 o5' o8' cnt' x => by
      by_cases e5 : x = b5 <;> by_cases e8 : x = b8 <;> by_cases ec : x = cb <;> simp_all [Store.upd]
    refine opsG_split (fun h => ?_) (fun h => ?_)
    case refine_2 =>
      simp -implicitDefEqProofs only [h, setCells, h85, h85.symm, hb5, hb8, hb5.symm, hb8.symm, hC, hwc, evb0, evb1, evb2, evb3, evb4, evb5, evb6, evb7, evb8, evb9, ↓evZ2, ↓evZ3, ↓Int.cast_ofNat_Int, implies_true, ne_eq, or_false, false_or, or_self, gt_iff_lt, isMut, aFn, List.contains, List.elem, aBox, aField, aLoad, sub, aNil, aPick, aExt, aFld, gd, noJunk, plainOp, aBuildSlice, aBuild, aFill, aParts, seqParts, fitAll, List.range', ↓reduceIte, reduceCtorEq, Nat.reduceEqDiff, Nat.reduceAdd, Nat.reduceLeDiff, Nat.reduceMul, Nat.reduceLT, Nat.reduceBEq, Int.reduceEq, tf_S5_171]
      refine hfail _ (cnt + 1) (by omega) (hdr _ _ _ _ _) ?_
      simp at h
      rw [Tm.nodes_mk]
      omega
    simp -implicitDefEqProofs only [h, setCells, h85, h85.symm, hb5, hb8, hb5.symm, hb8.symm, hC, hwc, evb0, evb1, evb2, evb3, evb4, evb5, evb6, evb7, evb8, evb9, ↓evZ2, ↓evZ3, ↓Int.cast_ofNat_Int, implies_true, ne_eq, or_false, false_or, or_self, gt_iff_lt, isMut, aFn, List.contains, List.elem, aBox, aField, aLoad, sub, aNil, aPick, aExt, aFld, gd, noJunk, plainOp, aBuildSlice, aBuild, aFill, aParts, seqParts, fitAll, List.range', ↓reduceIte, reduceCtorEq, Nat.reduceEqDiff, Nat.reduceAdd, Nat.reduceLeDiff, Nat.reduceMul, Nat.reduceLT, Nat.reduceBEq, Int.reduceEq, tf_S5_171]
    simp at h
    refine cond_split (fun h2 => ?_) (fun h2 => ?_)
    · simp only [decide_eq_true_eq] at h2
      obtain rfl : D = 0 := by omega
      simp -implicitDefEqProofs only [setCells, h85, h85.symm, hb5, hb8, hb5.symm, hb8.symm, hC, hwc, evb0, evb1, evb2, evb3, evb4, evb5, evb6, evb7, evb8, evb9, ↓evZ2, ↓evZ3, ↓Int.cast_ofNat_Int, implies_true, ne_eq, or_false, false_or, or_self, gt_iff_lt, isMut, aFn, List.contains, List.elem, aBox, aField, aLoad, sub, aNil, aPick, aExt, aFld, gd, noJunk, plainOp, aBuildSlice, aBuild, aFill, aParts, seqParts, fitAll, List.range', ↓reduceIte, reduceCtorEq, Nat.reduceEqDiff, Nat.reduceAdd, Nat.reduceLeDiff, Nat.reduceMul, Nat.reduceLT, Nat.reduceBEq, Int.reduceEq, tf_S5_171]
      exact hfail _ (cnt + 1) (by omega) (hdr _ _ _ _ _) (by rw [Tm.flat_zero]; simp)
    simp only [decide_eq_false_iff_not] at h2
    obtain ⟨D', rfl⟩ : ∃ D', D = D' + 1 := ⟨D - 1, by omega⟩
    have hdeep : IntKind.i64.wrap (31 - ((D' : Int) + 1) + 1) = 31 - (D' : Int) := by rw [wrap64 (by omega) (by omega)]; omega
    simp -implicitDefEqProofs only [setCells, h85, h85.symm, hb5, hb8, hb5.symm, hb8.symm, hC, hwc, evb0, evb1, evb2, evb3, evb4, evb5, evb6, evb7, evb8, evb9, ↓evZ2, ↓evZ3, ↓Int.cast_ofNat_Int, implies_true, ne_eq, or_false, false_or, or_self, gt_iff_lt, isMut, aFn, List.contains, List.elem, aBox, aField, aLoad, sub, aNil, aPick, aExt, aFld, gd, noJunk, plainOp, aBuildSlice, aBuild, aFill, aParts, seqParts, fitAll, List.range', ↓reduceIte, reduceCtorEq, Nat.reduceEqDiff, Nat.reduceAdd, Nat.reduceLeDiff, Nat.reduceMul, Nat.reduceLT, Nat.reduceBEq, Int.reduceEq, tf_S5_171]
    intro b10 h10
    have h105 : b10 ≠ b5 := by rintro rfl; simp [Store.upd, hb5.symm] at h10
    have h108 : b10 ≠ b8 := by rintro rfl; simp [Store.upd, h85, hb8.symm] at h10
    have h10c : b10 ≠ cb := by rintro rfl; simp [Store.upd] at h10
    have hn10 : st b10 = none := by rw [Store.upd_ne _ _ h10c, Store.upd_ne _ _ h105, Store.upd_ne _ _ h108, Store.upd_ne _ _ h105] at h10; exact h10
    simp -implicitDefEqProofs only [setCells, h85, h85.symm, hb5, hb8, hb5.symm, hb8.symm, h105, h105.symm, h108, h108.symm, h10c, h10c.symm, hdeep, List.length_map, evb0, evb1, evb2, evb3, evb4, evb5, evb6, evb7, evb8, evb9, ↓evZ2, ↓evZ3, ↓Int.cast_ofNat_Int, implies_true, ne_eq, or_false, false_or, or_self, gt_iff_lt, isMut, aFn, List.contains, List.elem, aBox, aField, aLoad, sub, aNil, aPick, aExt, aFld, gd, noJunk, plainOp, aBuildSlice, aBuild, aFill, aParts, seqParts, fitAll, List.range', ↓reduceIte, reduceCtorEq, Nat.reduceEqDiff, Nat.reduceAdd, Nat.reduceLeDiff, Nat.reduceMul, Nat.reduceLT, Nat.reduceBEq, Int.reduceEq, tf_S5_171]
    rw [Store.upd_mid h85]
    have hWS : SubAt ((st.upd b8 (.cells [.int .i64 0, .int .i64 0, .str ⟨#[]⟩, .fslice []])).upd b5 (.cells [.int .i64 k, .int .i64 n, .str s, .slice (ts.map Tm.av)])) c m q σ := (hS.upd hn8).upd (by rw [Store.upd_ne _ _ h85.symm]; exact h5)
    have hW8 : ((st.upd b8 (.cells [.int .i64 0, .int .i64 0, .str ⟨#[]⟩, .fslice []])).upd b5 (.cells [.int .i64 k, .int .i64 n, .str s, .slice (ts.map Tm.av)])) b8 = some (.cells [.int .i64 0, .int .i64 0, .str ⟨#[]⟩, .fslice []]) := by rw [Store.upd_ne _ _ h85, Store.upd_same]
    have hWd : ∀ X Y Z, Drops (((((st.upd b8 (.cells [.int .i64 0, .int .i64 0, .str ⟨#[]⟩, .fslice []])).upd b5 (.cells [.int .i64 k, .int .i64 n, .str s, .slice (ts.map Tm.av)])).upd cb X).upd b8 Y).upd b10 Z) (st.upd cb X) := fun X Y Z x => by
      by_cases e5 : x = b5 <;> by_cases e8 : x = b8 <;> by_cases ec : x = cb <;> by_cases e10 : x = b10 <;> simp_all [Store.upd]
    generalize ((st.upd b8 (.cells [.int .i64 0, .int .i64 0, .str ⟨#[]⟩, .fslice []])).upd b5 (.cells [.int .i64 k, .int .i64 n, .str s, .slice (ts.map Tm.av)])) = W at *
    obtain ⟨h10cc, h10m⟩ := hS.ne hn10
    refine arun_each (σ := Nat) [1000000, 5, 10] [0, 2, 3, 8, 10, 40, 41] ts
      (fun i b => (((ts.take i).map (Tm.mapv R)).map Tm.av ≠ [] → (Store.upd (W.upd cb (.cells [.int .i64 ((cnt + 1 + sumL Tm.nodes ((ts.take i).map (Tm.mapv R)) : Nat) : Int)])) b10 (.cells ([.int .i64 k, .int .i64 n, .str s] ++ [accV 4 b (((ts.take i).map (Tm.mapv R)).map Tm.av)]))) b = none) ∧
        cnt + 1 + sumL Tm.nodes ((ts.take i).map (Tm.mapv R)) ≤ 120 ∧ ((ts.take i).map (Tm.mapv R)).all (fun x => x.flat D') = true)
      (fun i b => [(9, .bool false), (42, .int .i64 i)])
      (fun i b => kidS (W.upd cb (.cells [.int .i64 ((cnt + 1 + sumL Tm.nodes ((ts.take i).map (Tm.mapv R)) : Nat) : Int)])) b10 b [.int .i64 k, .int .i64 n, .str s] (((ts.take i).map (Tm.mapv R)).map Tm.av)) (by decide +kernel)
      ⟨0, ⟨fun h => absurd rfl h, by simp [sumL]; omega, by simp⟩, LessL.mk (by simp -implicitDefEqProofs only [setCells, h85, h85.symm, hb5, hb8, hb5.symm, hb8.symm, h105, h105.symm, h108, h108.symm, h10c, h10c.symm, hdeep, List.length_map, evb0, evb1, evb2, evb3, evb4, evb5, evb6, evb7, evb8, evb9, ↓evZ2, ↓evZ3, ↓Int.cast_ofNat_Int, implies_true, ne_eq, or_false, false_or, or_self, gt_iff_lt, isMut, aFn, List.contains, List.elem, aBox, aField, aLoad, sub, aNil, aPick, aExt, aFld, gd, noJunk, plainOp, aBuildSlice, aBuild, aFill, aParts, seqParts, fitAll, List.range', ↓reduceIte, reduceCtorEq, Nat.reduceEqDiff, Nat.reduceAdd, Nat.reduceLeDiff, Nat.reduceMul, Nat.reduceLT, Nat.reduceBEq, Int.reduceEq, tf_S5_171])⟩ (fun i x b hx hlt hlt' hdr' hinv => ?_) (fun b hge hinv => ?_)
    · obtain ⟨i1, i2, i3⟩ := hinv
      have htk : (ts.take (i + 1)).map (Tm.mapv R) = (ts.take i).map (Tm.mapv R) ++ [x.mapv R] := by rw [List.take_add_one, hx]; simp
      have hlen' : (((ts.take i).map (Tm.mapv R)).map Tm.av).length = i := by simp only [List.length_map, List.length_take]; omega
      have hw := wrap64 (n := (i : Int) + 1) (by omega) (by omega)
      have hmem := List.mem_of_getElem? hx
      generalize hl0 : (ts.take i).map (Tm.mapv R) = l0 at *
      generalize hc0 : cnt + 1 + sumL Tm.nodes l0 = c0 at *
      have hWc : (W.upd cb (.cells [.int .i64 (c0 : Int)])) cb ≠ none := by rw [Store.upd_same]; simp
      have hs1 := kidS_ne i1 hWc h10c.symm
      have hsS : SubAt (kidS (W.upd cb (.cells [.int .i64 (c0 : Int)])) b10 b [.int .i64 k, .int .i64 n, .str s] (l0.map Tm.av)) c m q σ := by
        have h1 := (hWS.upd2 (o := .cells [.int .i64 (c0 : Int)]) hcb.1 hcb.2)
        exact ⟨by rw [kidS_ne i1 (by rw [h1.cells]; simp) h10cc.symm]; exact h1.cells, by rw [kidS_ne i1 (by rw [h1.map]; simp) h10m.symm]; exact h1.map⟩
      rw [Store.upd_same] at hs1
      simp -implicitDefEqProofs only [hlt', setCells, hdeep, List.length_map, ev_at (av := Tm.av) eI_27 hx (Tm.av_width x), Tm.av_agg, Tm.av_width, evb0, evb1, evb2, evb3, evb4, evb5, evb6, evb7, evb8, evb9, ↓evZ2, ↓evZ3, ↓Int.cast_ofNat_Int, implies_true, ne_eq, or_false, false_or, or_self, gt_iff_lt, isMut, aFn, List.contains, List.elem, aBox, aField, aLoad, sub, aNil, aPick, aExt, aFld, gd, noJunk, plainOp, aBuildSlice, aBuild, aFill, aParts, seqParts, fitAll, List.range', ↓reduceIte, reduceCtorEq, Nat.reduceEqDiff, Nat.reduceAdd, Nat.reduceLeDiff, Nat.reduceMul, Nat.reduceLT, Nat.reduceBEq, Int.reduceEq, tf_S5_171]
      refine (IH D' (Nat.lt_succ_self _) x c0 _ (by omega) (hcvs x hmem) (hsms x hmem) i2 hsS hs1).mono ?_
      rintro r s2 ⟨cnt', hcnt', rfl, hr⟩
      obtain ⟨e1, i1'⟩ := kidS_beside (o := .cells [.int .i64 (cnt' : Int)]) i1 hWc h10c.symm
      rw [e1, Store.upd_upd]
      rw [Store.upd_upd] at i1'
      have hnot : (ts.map (Tm.mapv R)) = l0 ++ (x.mapv R) :: (ts.drop (i + 1)).map (Tm.mapv R) := by rw [← hl0, ← List.map_cons, ← hdr', ← List.map_append, List.take_append_drop]
      by_cases hok : (x.mapv R).flat D' = true ∧ c0 + (x.mapv R).nodes ≤ 120
      · rw [if_pos hok] at hr
        obtain ⟨rfl, rfl⟩ := hr
        have hbo := kidS_c i1'
        simp -implicitDefEqProofs only [setCells, hdeep, List.length_map, ev_at (av := Tm.av) eI_27 hx (Tm.av_width x), Tm.av_agg, Tm.av_width, Tm.av_store, Tm.av_junk, hbo, accV_agg, accV_width, evb0, evb1, evb2, evb3, evb4, evb5, evb6, evb7, evb8, evb9, ↓evZ2, ↓evZ3, ↓Int.cast_ofNat_Int, implies_true, ne_eq, or_false, false_or, or_self, gt_iff_lt, isMut, aFn, List.contains, List.elem, aBox, aField, aLoad, sub, aNil, aPick, aExt, aFld, gd, noJunk, plainOp, aBuildSlice, aBuild, aFill, aParts, seqParts, fitAll, List.range', ↓reduceIte, reduceCtorEq, Nat.reduceEqDiff, Nat.reduceAdd, Nat.reduceLeDiff, Nat.reduceMul, Nat.reduceLT, Nat.reduceBEq, Int.reduceEq, tf_S5_171]
        refine acc_append eI_27 eB_27 eZ_27 rfl rfl (by intro e he; simp only [List.mem_cons, List.not_mem_nil, or_false] at he; subst he; exact ⟨Tm.av_width _, Tm.av_store _⟩) (tm_widths _) i1' (by simp only [hlen', List.length_cons, List.length_nil]; omega) (by simp only [hlen', List.length_cons, List.length_nil]; omega) (fun b' hb' => ?_)
        rw [show l0.map Tm.av ++ [(x.mapv R).av] = ((ts.take (i + 1)).map (Tm.mapv R)).map Tm.av by rw [htk]; simp] at hb' ⊢
        obtain ⟨g1, g2, g3⟩ := kidS_set hb'
        simp only [List.cons_append, List.nil_append] at g1 g3
        have hcc : cnt + 1 + sumL Tm.nodes ((ts.take (i + 1)).map (Tm.mapv R)) = c0 + (x.mapv R).nodes := by rw [htk, sumL_append, sumL, sumL, ← hc0]; omega
        simp -implicitDefEqProofs only [g3, accV_cells, accV_store, Nat.le_refl, g1, hw, setCells, hdeep, List.length_map, ev_at (av := Tm.av) eI_27 hx (Tm.av_width x), Tm.av_agg, Tm.av_width, Tm.av_store, Tm.av_junk, hbo, accV_agg, accV_width, evb0, evb1, evb2, evb3, evb4, evb5, evb6, evb7, evb8, evb9, ↓evZ2, ↓evZ3, ↓Int.cast_ofNat_Int, implies_true, ne_eq, or_false, false_or, or_self, gt_iff_lt, isMut, aFn, List.contains, List.elem, aBox, aField, aLoad, sub, aNil, aPick, aExt, aFld, gd, noJunk, plainOp, aBuildSlice, aBuild, aFill, aParts, seqParts, fitAll, List.range', ↓reduceIte, reduceCtorEq, Nat.reduceEqDiff, Nat.reduceAdd, Nat.reduceLeDiff, Nat.reduceMul, Nat.reduceLT, Nat.reduceBEq, Int.reduceEq, tf_S5_171]
        rw [hcc]
        exact ⟨b', ⟨g2, hok.2, by rw [htk, List.all_append, i3]; simp [hok.1]⟩, LessL.mk (by simp -implicitDefEqProofs only [setCells, hdeep, List.length_map, ev_at (av := Tm.av) eI_27 hx (Tm.av_width x), Tm.av_agg, Tm.av_width, Tm.av_store, Tm.av_junk, hbo, accV_agg, accV_width, evb0, evb1, evb2, evb3, evb4, evb5, evb6, evb7, evb8, evb9, ↓evZ2, ↓evZ3, ↓Int.cast_ofNat_Int, implies_true, ne_eq, or_false, false_or, or_self, gt_iff_lt, isMut, aFn, List.contains, List.elem, aBox, aField, aLoad, sub, aNil, aPick, aExt, aFld, gd, noJunk, plainOp, aBuildSlice, aBuild, aFill, aParts, seqParts, fitAll, List.range', ↓reduceIte, reduceCtorEq, Nat.reduceEqDiff, Nat.reduceAdd, Nat.reduceLeDiff, Nat.reduceMul, Nat.reduceLT, Nat.reduceBEq, Int.reduceEq, tf_S5_171])⟩
      · rw [if_neg hok] at hr
        subst hr
        obtain ⟨e2, i2'⟩ := kidS_beside (x := b8) (o := .cells [.int .i64 0, .int .i64 0, .str ⟨#[]⟩, .fslice []]) i1' (by rw [Store.upd_ne _ _ hb8.symm, hW8]; simp) h108.symm
        have h8o := kidS_ne i1' (x := b8) (by rw [Store.upd_ne _ _ hb8.symm, hW8]; simp) h108.symm
        rw [Store.upd_ne _ _ hb8.symm, hW8] at h8o
        simp -implicitDefEqProofs only [setCells, hdeep, List.length_map, Tm.av_agg, Tm.av_width, Tm.av_store, Tm.av_junk, h8o, Tm.zero, Tm.av_mk, List.map_nil, evb0, evb1, evb2, evb3, evb4, evb5, evb6, evb7, evb8, evb9, ↓evZ2, ↓evZ3, ↓Int.cast_ofNat_Int, implies_true, ne_eq, or_false, false_or, or_self, gt_iff_lt, isMut, aFn, List.contains, List.elem, aBox, aField, aLoad, sub, aNil, aPick, aExt, aFld, gd, noJunk, plainOp, aBuildSlice, aBuild, aFill, aParts, seqParts, fitAll, List.range', ↓reduceIte, reduceCtorEq, Nat.reduceEqDiff, Nat.reduceAdd, Nat.reduceLeDiff, Nat.reduceMul, Nat.reduceLT, Nat.reduceBEq, Int.reduceEq, tf_S5_171]
        rw [e2]
        refine hfail _ cnt' hcnt' (kidS_gone (hWd _ _ _) i2') ?_
        rw [Tm.nodes_mk, Tm.flat_succ, hnot, List.all_append, List.all_cons, sumL_append, sumL]
        rintro ⟨h3, h4⟩
        simp only [Bool.and_eq_true] at h3
        exact hok ⟨h3.2.1, by omega⟩
    · obtain ⟨i1, i2, i3⟩ := hinv
      rw [List.take_length] at i1 i2 i3 ⊢
      have hbo := kidS_c i1
      have hx8 : (W.upd cb (.cells [.int .i64 ((cnt + 1 + sumL Tm.nodes (ts.map (Tm.mapv R)) : Nat) : Int)])) b8 ≠ none := by rw [Store.upd_ne _ _ hb8.symm, hW8]; simp
      have h8o := kidS_ne i1 (x := b8) hx8 h108.symm
      rw [Store.upd_ne _ _ hb8.symm, hW8] at h8o
      simp -implicitDefEqProofs only [setCells, hdeep, List.length_map, hge, hbo, h8o, accV_store, evb0, evb1, evb2, evb3, evb4, evb5, evb6, evb7, evb8, evb9, ↓evZ2, ↓evZ3, ↓Int.cast_ofNat_Int, implies_true, ne_eq, or_false, false_or, or_self, gt_iff_lt, isMut, aFn, List.contains, List.elem, aBox, aField, aLoad, sub, aNil, aPick, aExt, aFld, gd, noJunk, plainOp, aBuildSlice, aBuild, aFill, aParts, seqParts, fitAll, List.range', ↓reduceIte, reduceCtorEq, Nat.reduceEqDiff, Nat.reduceAdd, Nat.reduceLeDiff, Nat.reduceMul, Nat.reduceLT, Nat.reduceBEq, Int.reduceEq, tf_S5_171]
      obtain ⟨h5, h6⟩ := kidS_upd (o := .cells [.int .i64 k, .int .i64 n, .str s, accV 4 b ((ts.map (Tm.mapv R)).map Tm.av)]) i1 hx8 h108.symm
      have hsum : cnt + (Tm.mk k n s (ts.map (Tm.mapv R))).nodes = cnt + 1 + sumL Tm.nodes (ts.map (Tm.mapv R)) := by rw [Tm.nodes_mk]; omega
      refine ⟨b, _, _, h5, h6, tm_junk _, ⟨4, tm_widths _⟩, _, ?_, _, Nat.le_succ_of_le i2, rfl, ?_⟩
      · rw [Store.upd_comm _ _ _ h108]
        exact hWd _ _ _
      · rw [if_pos ⟨by rw [Tm.flat_succ]; exact i3, by rw [hsum]; exact i2⟩, hsum]
        refine ⟨?_, rfl⟩
        simp only [fin_tup, fin_agg, List.map_cons, List.map_nil, fin_int, fin_str, fin_bool, accV_fin, Tm.av_mk]
termination_by D => D
decreasing_by exact hlt
end Go.AW


/- The program's unification of terms. -/
namespace Go.AW
open Go.Proofs.Try
set_option linter.unusedSimpArgs false
set_option maxRecDepth 100000

/-- What is resolved, if it is not too large. -/
def optR (v : Tm) : AV := if v.flat 30 = true ∧ v.nodes ≤ 120 then .tup [v.av, .bool true] else .tup [Tm.zero.av, .bool false]

theorem tf_S6_124 : (type_of% tI_2) ∧ (type_of% zI_2) ∧ (type_of% Go.Proofs.Try.underlying2) ∧ (type_of% tI_3) ∧ (type_of% zI_3) ∧ (type_of% Go.Proofs.Try.underlying3) ∧ (type_of% tI_4) ∧ (type_of% zI_4) ∧ (type_of% Go.Proofs.Try.underlying4) ∧ (type_of% tI_6) ∧ (type_of% zI_6) ∧ (type_of% Go.Proofs.Try.underlying6) ∧ (type_of% tI_7) ∧ (type_of% zI_7) ∧ (type_of% fI_7_0) ∧ (type_of% fI_7_1) ∧ (type_of% fI_7_2) ∧ (type_of% fI_7_3) ∧ (type_of% bI_7) ∧ (type_of% tI_8) ∧ (type_of% zI_8) ∧ (type_of% fI_8_0) ∧ (type_of% fI_8_1) ∧ (type_of% fI_8_2) ∧ (type_of% fI_8_3) ∧ (type_of% bI_8) ∧ (type_of% tI_9) ∧ (type_of% zI_9) ∧ (type_of% Go.Proofs.Try.underlying9) ∧ (type_of% tI_12) ∧ (type_of% zI_12) ∧ (type_of% Go.Proofs.Try.underlying12) ∧ (type_of% tI_41) ∧ (type_of% zI_41) ∧ (type_of% fI_41_0) ∧ (type_of% fI_41_1) ∧ (type_of% fI_41_2) ∧ (type_of% fI_41_3) ∧ (type_of% bI_41) ∧ (type_of% tI_64) ∧ (type_of% zI_64) ∧ (type_of% fI_64_0) ∧ (type_of% fI_64_1) ∧ (type_of% bI_64) ∧ (type_of% tI_102) ∧ (type_of% zI_102) ∧ (type_of% tI_111) ∧ (type_of% zI_111) ∧ (type_of% tI_171) ∧ (type_of% zI_171) ∧ (type_of% fI_171_0) ∧ (type_of% fI_171_1) ∧ (type_of% fI_171_2) ∧ (type_of% fI_171_3) ∧ (type_of% fI_171_4) ∧ (type_of% fI_171_5) ∧ (type_of% fI_171_6) ∧ (type_of% bI_171) := ⟨tI_2, zI_2, Go.Proofs.Try.underlying2, tI_3, zI_3, Go.Proofs.Try.underlying3, tI_4, zI_4, Go.Proofs.Try.underlying4, tI_6, zI_6, Go.Proofs.Try.underlying6, tI_7, zI_7, fI_7_0, fI_7_1, fI_7_2, fI_7_3, bI_7, tI_8, zI_8, fI_8_0, fI_8_1, fI_8_2, fI_8_3, bI_8, tI_9, zI_9, Go.Proofs.Try.underlying9, tI_12, zI_12, Go.Proofs.Try.underlying12, tI_41, zI_41, fI_41_0, fI_41_1, fI_41_2, fI_41_3, bI_41, tI_64, zI_64, fI_64_0, fI_64_1, bI_64, tI_102, zI_102, tI_111, zI_111, tI_171, zI_171, fI_171_0, fI_171_1, fI_171_2, fI_171_3, fI_171_4, fI_171_5, fI_171_6, bI_171⟩
theorem c_resolve {σ : Sub} {R : Int → Tm} {rk : Int → Nat} {B : Nat} (G : Good σ R rk B) (hcv : AllS Cv σ) (hsm : AllS Sm σ) (c m : Nat) (q : AV) (t : Tm) (hct : Cv t) (hst : Sm t) (st : Store) (hS : SubAt st c m q σ) :
    ACalls prog 124 [.ptr c 0, t.av] st (fun r st' => r = optR (t.mapv R) ∧ st' = st) := by
  refine ACalls.done ?_
  refine acalls_fit [1000000, 6] func124 ntmps124 rfl rfl (by kernel_rfl) (by decide +kernel) (by show 2 ≤ _; decide +kernel) ?_
  intro _
  simp -implicitDefEqProofs only [setCells, evb0, evb1, evb2, evb3, evb4, evb5, evb6, evb7, evb8, evb9, ↓evZ2, ↓evZ3, ↓Int.cast_ofNat_Int, implies_true, ne_eq, or_false, false_or, or_self, gt_iff_lt, isMut, aFn, List.contains, List.elem, aBox, aField, aLoad, sub, aNil, aPick, aExt, aFld, gd, noJunk, plainOp, aBuildSlice, aBuild, aFill, aParts, seqParts, fitAll, List.range', ↓reduceIte, reduceCtorEq, Nat.reduceEqDiff, Nat.reduceAdd, Nat.reduceLeDiff, Nat.reduceMul, Nat.reduceLT, Nat.reduceBEq, Int.reduceEq, tf_S6_124]
  intro b4 h4 b6 h6
  have hne : b6 ≠ b4 := by rintro rfl; rw [Store.upd_same] at h6; cases h6
  have hn6 : st b6 = none := by rw [Store.upd_ne st _ hne] at h6; exact h6
  have hS' : ∀ o o', SubAt ((st.upd b4 o).upd b6 o') c m q σ := fun o o' => (hS.upd h4).upd (by rw [Store.upd_ne _ _ hne]; exact hn6)
  obtain ⟨h6c, h6m⟩ := hS.ne hn6
  have hc := c_resolving G hcv hsm c m b6 q ⟨h6c, h6m⟩ 30 t 0 _ (by omega) hct hst (by omega) (hS' (.cells [.int .i64 0, .int .i64 0, .str ⟨#[]⟩, .fslice []]) (.cells [.int .i64 0])) (Store.upd_same _ _ _)
  rw [show (31 - ((30 : Nat) : Int)) = 1 from rfl] at hc
  refine hc.mono ?_
  rintro r s2 ⟨cnt', _, rfl, hr⟩
  unfold optR
  rw [Nat.zero_add] at hr
  split at hr
  · rename_i hok
    obtain ⟨rfl, _⟩ := hr
    rw [if_pos hok]
    simp -implicitDefEqProofs only [Tm.av_cells, Tm.av_store, Tm.av_agg, Tm.av_width, setCells, hne, hne.symm, evb0, evb1, evb2, evb3, evb4, evb5, evb6, evb7, evb8, evb9, ↓evZ2, ↓evZ3, ↓Int.cast_ofNat_Int, implies_true, ne_eq, or_false, false_or, or_self, gt_iff_lt, isMut, aFn, List.contains, List.elem, aBox, aField, aLoad, sub, aNil, aPick, aExt, aFld, gd, noJunk, plainOp, aBuildSlice, aBuild, aFill, aParts, seqParts, fitAll, List.range', ↓reduceIte, reduceCtorEq, Nat.reduceEqDiff, Nat.reduceAdd, Nat.reduceLeDiff, Nat.reduceMul, Nat.reduceLT, Nat.reduceBEq, Int.reduceEq, tf_S6_124]
    exact ⟨by simp only [soft_agg, soft_tup, soft_int, soft_bool, soft_str, soft_slice, soft_fslice, soft_ptr, soft_pptr, soft_map, soft_mslice, Tm.soft, List.map_cons, List.map_nil], (((Drops.refl _).upd h4).upd hn6).upd h4⟩
  · rename_i hok
    subst hr
    rw [if_neg hok]
    simp -implicitDefEqProofs only [Tm.zero, Tm.av_mk, List.map_nil, setCells, hne, hne.symm, evb0, evb1, evb2, evb3, evb4, evb5, evb6, evb7, evb8, evb9, ↓evZ2, ↓evZ3, ↓Int.cast_ofNat_Int, implies_true, ne_eq, or_false, false_or, or_self, gt_iff_lt, isMut, aFn, List.contains, List.elem, aBox, aField, aLoad, sub, aNil, aPick, aExt, aFld, gd, noJunk, plainOp, aBuildSlice, aBuild, aFill, aParts, seqParts, fitAll, List.range', ↓reduceIte, reduceCtorEq, Nat.reduceEqDiff, Nat.reduceAdd, Nat.reduceLeDiff, Nat.reduceMul, Nat.reduceLT, Nat.reduceBEq, Int.reduceEq, tf_S6_124]
    exact ⟨by simp only [soft_agg, soft_tup, soft_int, soft_bool, soft_str, soft_slice, soft_fslice, soft_ptr, soft_pptr, soft_map, soft_mslice, Tm.soft, List.map_cons, List.map_nil], (((Drops.refl _).upd h4).upd hn6).upd h4⟩

theorem tf_S6_69 : (type_of% tI_4) ∧ (type_of% zI_4) ∧ (type_of% Go.Proofs.Try.underlying4) ∧ (type_of% tI_102) ∧ (type_of% zI_102) ∧ (type_of% tI_147) ∧ (type_of% zI_147) ∧ (type_of% Go.Proofs.Try.underlying147) ∧ (type_of% tI_157) ∧ (type_of% zI_157) ∧ (type_of% fI_157_0) ∧ (type_of% fI_157_1) ∧ (type_of% bI_157) := ⟨tI_4, zI_4, Go.Proofs.Try.underlying4, tI_102, zI_102, tI_147, zI_147, Go.Proofs.Try.underlying147, tI_157, zI_157, fI_157_0, fI_157_1, bI_157⟩
theorem c_newStore (st : Store) : ACalls prog 69 [] st (fun r st' => ∃ c m, r = .ptr c 0 ∧ Sto st' c m (.fslice []) Sub.none [] ∧ StepQ c m st (.fslice []) st' (.fslice []) ∧ st c = none ∧ st m = none) := by
  refine acalls_fit [1000000, 3] func69 ntmps69 rfl rfl (by kernel_rfl) (by decide +kernel) (by show 0 ≤ _; decide +kernel) ?_
  intro _
  simp -implicitDefEqProofs only [setCells, evb0, evb1, evb2, evb3, evb4, evb5, evb6, evb7, evb8, evb9, ↓evZ2, ↓evZ3, ↓Int.cast_ofNat_Int, implies_true, ne_eq, or_false, false_or, or_self, gt_iff_lt, isMut, aFn, List.contains, List.elem, aBox, aField, aLoad, sub, aNil, aPick, aExt, aFld, gd, noJunk, plainOp, aBuildSlice, aBuild, aFill, aParts, seqParts, fitAll, List.range', ↓reduceIte, reduceCtorEq, Nat.reduceEqDiff, Nat.reduceAdd, Nat.reduceLeDiff, Nat.reduceMul, Nat.reduceLT, Nat.reduceBEq, Int.reduceEq, tf_S6_69]
  intro m hm c hc
  have hne : c ≠ m := by rintro rfl; rw [Store.upd_same] at hc; cases hc
  have hnc : st c = none := by rw [Store.upd_ne st _ hne] at hc; exact hc
  refine ⟨c, m, rfl, ⟨⟨Store.upd_same _ _ _, by rw [Store.upd_ne _ _ hne.symm, Store.upd_same]; rfl⟩, .inl ⟨rfl, rfl⟩, by simp [tbk]⟩, ⟨fun x o h h1 h2 _ => by rw [Store.upd_ne _ _ h1, Store.upd_ne _ _ h2]; exact h, by simp [tbk]⟩, hnc, hm⟩

/-- The bindings of the first variables. -/
noncomputable def bindsTo (σ : Sub) (i : Nat) : List Bd := (List.range i).filterMap fun i : Nat => (σ (i : Int)).map fun u => ((i : Int), u.mapv (rs σ))
theorem bindsTo_26 (σ : Sub) : bindsTo σ 26 = bindsOf σ := rfl
theorem bindsTo_none {σ : Sub} {i : Nat} (h : σ (i : Int) = none) : bindsTo σ (i + 1) = bindsTo σ i := by
  unfold bindsTo
  rw [List.range_succ, List.filterMap_append]
  simp [h]
theorem bindsTo_some {σ : Sub} {i : Nat} {u : Tm} (h : σ (i : Int) = some u) : bindsTo σ (i + 1) = bindsTo σ i ++ [((i : Int), u.mapv (rs σ))] := by
  unfold bindsTo
  rw [List.range_succ, List.filterMap_append]
  simp [h]
theorem bindsTo_len (σ : Sub) (i : Nat) : (bindsTo σ i).length ≤ i := by
  have := List.length_filterMap_le (fun i : Nat => (σ (i : Int)).map fun u => ((i : Int), u.mapv (rs σ))) (List.range i)
  simpa [bindsTo] using this
abbrev fitB (b : Bd) : Bool := b.2.flat 30 && decide (b.2.nodes ≤ 120)
/-- All bindings, if none is too large. -/
noncomputable def allAv (σ : Sub) : AV := if (bindsOf σ).all fitB = true then .tup [.slice ((bindsOf σ).map bdAv), .bool true] else .tup [.slice [], .bool false]
theorem bindsTo_bad {σ : Sub} {i : Nat} {u : Tm} (hi : i < 26) (h : σ (i : Int) = some u) (hb : ¬ ((u.mapv (rs σ)).flat 30 = true ∧ (u.mapv (rs σ)).nodes ≤ 120)) : ¬ (bindsOf σ).all fitB = true := by
  intro h2
  have : ((i : Int), u.mapv (rs σ)) ∈ bindsOf σ := by
    unfold bindsOf
    rw [List.mem_filterMap]
    exact ⟨i, by simp [hi], by simp [h]⟩
  have := List.all_eq_true.1 h2 _ this
  simp only [fitB, Bool.and_eq_true, decide_eq_true_eq] at this
  exact hb this

theorem SubAt.acc {st : Store} {c m b : Nat} {q : AV} {σ : Sub} {l : List AV} (h : SubAt st c m q σ) (hb : l ≠ [] → st b = none) : SubAt (accS st b l) c m q σ := by
  cases l with
  | nil => exact h
  | cons x l => exact h.upd (hb (by simp))
theorem tf_S6_71 : (type_of% tI_2) ∧ (type_of% zI_2) ∧ (type_of% Go.Proofs.Try.underlying2) ∧ (type_of% tI_3) ∧ (type_of% zI_3) ∧ (type_of% Go.Proofs.Try.underlying3) ∧ (type_of% tI_4) ∧ (type_of% zI_4) ∧ (type_of% Go.Proofs.Try.underlying4) ∧ (type_of% tI_5) ∧ (type_of% zI_5) ∧ (type_of% Go.Proofs.Try.underlying5) ∧ (type_of% tI_6) ∧ (type_of% zI_6) ∧ (type_of% Go.Proofs.Try.underlying6) ∧ (type_of% tI_7) ∧ (type_of% zI_7) ∧ (type_of% fI_7_0) ∧ (type_of% fI_7_1) ∧ (type_of% fI_7_2) ∧ (type_of% fI_7_3) ∧ (type_of% bI_7) ∧ (type_of% tI_8) ∧ (type_of% zI_8) ∧ (type_of% fI_8_0) ∧ (type_of% fI_8_1) ∧ (type_of% fI_8_2) ∧ (type_of% fI_8_3) ∧ (type_of% bI_8) ∧ (type_of% tI_9) ∧ (type_of% zI_9) ∧ (type_of% Go.Proofs.Try.underlying9) ∧ (type_of% tI_10) ∧ (type_of% zI_10) ∧ (type_of% Go.Proofs.Try.underlying10) ∧ (type_of% tI_11) ∧ (type_of% zI_11) ∧ (type_of% Go.Proofs.Try.underlying11) ∧ (type_of% tI_12) ∧ (type_of% zI_12) ∧ (type_of% Go.Proofs.Try.underlying12) ∧ (type_of% tI_24) ∧ (type_of% zI_24) ∧ (type_of% fI_24_0) ∧ (type_of% bI_24) ∧ (type_of% tI_31) ∧ (type_of% zI_31) ∧ (type_of% fI_31_0) ∧ (type_of% bI_31) ∧ (type_of% tI_39) ∧ (type_of% zI_39) ∧ (type_of% eI_39) ∧ (type_of% eB_39) ∧ (type_of% eZ_39) ∧ (type_of% Go.Proofs.Try.underlying39) ∧ (type_of% tI_41) ∧ (type_of% zI_41) ∧ (type_of% fI_41_0) ∧ (type_of% fI_41_1) ∧ (type_of% fI_41_2) ∧ (type_of% fI_41_3) ∧ (type_of% bI_41) ∧ (type_of% tI_44) ∧ (type_of% zI_44) ∧ (type_of% eI_44) ∧ (type_of% eB_44) ∧ (type_of% eZ_44) ∧ (type_of% Go.Proofs.Try.underlying44) ∧ (type_of% tI_54) ∧ (type_of% zI_54) ∧ (type_of% fI_54_0) ∧ (type_of% fI_54_1) ∧ (type_of% bI_54) ∧ (type_of% tI_64) ∧ (type_of% zI_64) ∧ (type_of% fI_64_0) ∧ (type_of% fI_64_1) ∧ (type_of% bI_64) ∧ (type_of% tI_102) ∧ (type_of% zI_102) ∧ (type_of% tI_119) ∧ (type_of% zI_119) ∧ (type_of% fI_119_0) ∧ (type_of% fI_119_1) ∧ (type_of% bI_119) ∧ (type_of% tI_147) ∧ (type_of% zI_147) ∧ (type_of% Go.Proofs.Try.underlying147) ∧ (type_of% tI_157) ∧ (type_of% zI_157) ∧ (type_of% fI_157_0) ∧ (type_of% fI_157_1) ∧ (type_of% bI_157) := ⟨tI_2, zI_2, Go.Proofs.Try.underlying2, tI_3, zI_3, Go.Proofs.Try.underlying3, tI_4, zI_4, Go.Proofs.Try.underlying4, tI_5, zI_5, Go.Proofs.Try.underlying5, tI_6, zI_6, Go.Proofs.Try.underlying6, tI_7, zI_7, fI_7_0, fI_7_1, fI_7_2, fI_7_3, bI_7, tI_8, zI_8, fI_8_0, fI_8_1, fI_8_2, fI_8_3, bI_8, tI_9, zI_9, Go.Proofs.Try.underlying9, tI_10, zI_10, Go.Proofs.Try.underlying10, tI_11, zI_11, Go.Proofs.Try.underlying11, tI_12, zI_12, Go.Proofs.Try.underlying12, tI_24, zI_24, fI_24_0, bI_24, tI_31, zI_31, fI_31_0, bI_31, tI_39, zI_39, eI_39, eB_39, eZ_39, Go.Proofs.Try.underlying39, tI_41, zI_41, fI_41_0, fI_41_1, fI_41_2, fI_41_3, bI_41, tI_44, zI_44, eI_44, eB_44, eZ_44, Go.Proofs.Try.underlying44, tI_54, zI_54, fI_54_0, fI_54_1, bI_54, tI_64, zI_64, fI_64_0, fI_64_1, bI_64, tI_102, zI_102, tI_119, zI_119, fI_119_0, fI_119_1, bI_119, tI_147, zI_147, Go.Proofs.Try.underlying147, tI_157, zI_157, fI_157_0, fI_157_1, bI_157⟩
theorem c_all {σ : Sub} (hg : IsGood σ) (hcv : AllS Cv σ) (hsm : AllS Sm σ) (c m : Nat) (q : AV) (st : Store) (hS : SubAt st c m q σ) :
    ACalls prog 71 [.ptr c 0] st (fun r st' => r = allAv σ ∧ st' = st) := by
  obtain ⟨rk, B, G⟩ := hg.rs
  refine ACalls.done ?_
  refine acalls_fit [1000000] func71 ntmps71 rfl rfl (by kernel_rfl) (by decide +kernel) (by show 1 ≤ _; decide +kernel) ?_
  intro _
  have hl := fun (st' : Store) (hm : st' m = some (AO.map (mapOf σ))) (n : Int) => look_sub (P := prog) (n := n) hm underlying147 underlying3 zV_41
  simp -implicitDefEqProofs only [evb0, evb1, evb2, evb3, evb4, evb5, evb6, evb7, evb8, evb9, ↓evZ2, ↓evZ3, ↓Int.cast_ofNat_Int, implies_true, ne_eq, or_false, false_or, or_self, gt_iff_lt, isMut, aFn, List.contains, List.elem, aBox, aField, aLoad, sub, aNil, aPick, aExt, aFld, gd, noJunk, plainOp, aBuildSlice, aBuild, aFill, aParts, seqParts, fitAll, List.range', ↓reduceIte, reduceCtorEq, Nat.reduceEqDiff, Nat.reduceAdd, Nat.reduceLeDiff, Nat.reduceMul, Nat.reduceLT, Nat.reduceBEq, Int.reduceEq, tf_S6_71]
  refine arun_grow (σ := Unit) [1000000] [0] (List.range 26) 5 4 (fun i _ => (bindsTo σ i).map bdAv) (fun i _ => (bindsTo σ i).all fitB = true) (fun i _ => [(2, .fslice []), (3, .bool false), (9, .int .i64 i)]) (fun _ _ => st) (fun i _ _ e he => by simp only [List.mem_map] at he; obtain ⟨t, _, rfl⟩ := he; exact ⟨bdAv_junk t, bdAv_width t⟩) (by decide +kernel) ⟨(), 0, rfl, fun h => absurd rfl h, LessL.mk (by simp -implicitDefEqProofs only [show bindsTo σ 0 = [] from rfl, List.map_nil, accV_nil, accS_nil, evb0, evb1, evb2, evb3, evb4, evb5, evb6, evb7, evb8, evb9, ↓evZ2, ↓evZ3, ↓Int.cast_ofNat_Int, implies_true, ne_eq, or_false, false_or, or_self, gt_iff_lt, isMut, aFn, List.contains, List.elem, aBox, aField, aLoad, sub, aNil, aPick, aExt, aFld, gd, noJunk, plainOp, aBuildSlice, aBuild, aFill, aParts, seqParts, fitAll, List.range', ↓reduceIte, reduceCtorEq, Nat.reduceEqDiff, Nat.reduceAdd, Nat.reduceLeDiff, Nat.reduceMul, Nat.reduceLT, Nat.reduceBEq, Int.reduceEq, tf_S6_71])⟩ (fun i x s b hx hlt hlt' hdr hinv hb => ?_) (fun s b hge hinv => ?_)
  · rw [List.length_range] at hlt
    have hx' : x = i := by rw [List.getElem?_range hlt] at hx; exact (Option.some.inj hx).symm
    subst hx'
    have hlen' := bindsTo_len σ x
    have hw := wrap64 (n := (x : Int) + 1) (by omega) (by omega)
    have hlt2 : decide ((x : Int) < 26) = true := by simp; omega
    have hSA := hS.acc hb
    have hlA := hl _ hSA.map
    simp -implicitDefEqProofs only [hlt2, hSA.cells, hlA, evb0, evb1, evb2, evb3, evb4, evb5, evb6, evb7, evb8, evb9, ↓evZ2, ↓evZ3, ↓Int.cast_ofNat_Int, implies_true, ne_eq, or_false, false_or, or_self, gt_iff_lt, isMut, aFn, List.contains, List.elem, aBox, aField, aLoad, sub, aNil, aPick, aExt, aFld, gd, noJunk, plainOp, aBuildSlice, aBuild, aFill, aParts, seqParts, fitAll, List.range', ↓reduceIte, reduceCtorEq, Nat.reduceEqDiff, Nat.reduceAdd, Nat.reduceLeDiff, Nat.reduceMul, Nat.reduceLT, Nat.reduceBEq, Int.reduceEq, tf_S6_71]
    cases h : σ (x : Int) with
    | none =>
      rw [← bindsTo_none h] at hinv hb ⊢
      simp -implicitDefEqProofs only [found, hw, evb0, evb1, evb2, evb3, evb4, evb5, evb6, evb7, evb8, evb9, ↓evZ2, ↓evZ3, ↓Int.cast_ofNat_Int, implies_true, ne_eq, or_false, false_or, or_self, gt_iff_lt, isMut, aFn, List.contains, List.elem, aBox, aField, aLoad, sub, aNil, aPick, aExt, aFld, gd, noJunk, plainOp, aBuildSlice, aBuild, aFill, aParts, seqParts, fitAll, List.range', ↓reduceIte, reduceCtorEq, Nat.reduceEqDiff, Nat.reduceAdd, Nat.reduceLeDiff, Nat.reduceMul, Nat.reduceLT, Nat.reduceBEq, Int.reduceEq, tf_S6_71]
      exact ⟨(), b, hinv, hb, LessL.mk (by simp -implicitDefEqProofs only [hw, hw, evb0, evb1, evb2, evb3, evb4, evb5, evb6, evb7, evb8, evb9, ↓evZ2, ↓evZ3, ↓Int.cast_ofNat_Int, implies_true, ne_eq, or_false, false_or, or_self, gt_iff_lt, isMut, aFn, List.contains, List.elem, aBox, aField, aLoad, sub, aNil, aPick, aExt, aFld, gd, noJunk, plainOp, aBuildSlice, aBuild, aFill, aParts, seqParts, fitAll, List.range', ↓reduceIte, reduceCtorEq, Nat.reduceEqDiff, Nat.reduceAdd, Nat.reduceLeDiff, Nat.reduceMul, Nat.reduceLT, Nat.reduceBEq, Int.reduceEq, tf_S6_71])⟩
    | some u =>
      have hct := hcv _ _ h
      have hst := hsm _ _ h
      simp -implicitDefEqProofs only [found, Tm.av_agg, Tm.av_width, Tm.av_junk, Tm.av_store, evb0, evb1, evb2, evb3, evb4, evb5, evb6, evb7, evb8, evb9, ↓evZ2, ↓evZ3, ↓Int.cast_ofNat_Int, implies_true, ne_eq, or_false, false_or, or_self, gt_iff_lt, isMut, aFn, List.contains, List.elem, aBox, aField, aLoad, sub, aNil, aPick, aExt, aFld, gd, noJunk, plainOp, aBuildSlice, aBuild, aFill, aParts, seqParts, fitAll, List.range', ↓reduceIte, reduceCtorEq, Nat.reduceEqDiff, Nat.reduceAdd, Nat.reduceLeDiff, Nat.reduceMul, Nat.reduceLT, Nat.reduceBEq, Int.reduceEq, tf_S6_71]
      refine (c_resolve G hcv hsm c m q u hct hst _ hSA).to ?_
      unfold optR
      split
      · rename_i hok
        simp -implicitDefEqProofs only [Tm.av_agg, Tm.av_width, Tm.av_junk, Tm.av_store, evb0, evb1, evb2, evb3, evb4, evb5, evb6, evb7, evb8, evb9, ↓evZ2, ↓evZ3, ↓Int.cast_ofNat_Int, implies_true, ne_eq, or_false, false_or, or_self, gt_iff_lt, isMut, aFn, List.contains, List.elem, aBox, aField, aLoad, sub, aNil, aPick, aExt, aFld, gd, noJunk, plainOp, aBuildSlice, aBuild, aFill, aParts, seqParts, fitAll, List.range', ↓reduceIte, reduceCtorEq, Nat.reduceEqDiff, Nat.reduceAdd, Nat.reduceLeDiff, Nat.reduceMul, Nat.reduceLT, Nat.reduceBEq, Int.reduceEq, tf_S6_71]
        rw [bdAv_mk]
        have hlen2 : ((bindsTo σ x).map bdAv).length ≤ x := by rw [List.length_map]; exact hlen'
        refine acc_append eI_44 eB_44 eZ_44 rfl rfl (by intro e he; simp only [List.mem_cons, List.not_mem_nil, or_false] at he; subst he; exact ⟨bdAv_width _, bdAv_store _⟩) (bd_widths _) hb (by simp only [List.length_cons, List.length_nil]; omega) (by simp only [List.length_cons, List.length_nil]; omega) (fun b' hb' => ?_)
        rw [show (bindsTo σ x).map bdAv ++ [bdAv ((x : Int), u.mapv (rs σ))] = (bindsTo σ (x + 1)).map bdAv by rw [bindsTo_some h]; simp] at hb' ⊢
        simp -implicitDefEqProofs only [Tm.av_agg, Tm.av_width, Tm.av_junk, Tm.av_store, evb0, evb1, evb2, evb3, evb4, evb5, evb6, evb7, evb8, evb9, ↓evZ2, ↓evZ3, ↓Int.cast_ofNat_Int, implies_true, ne_eq, or_false, false_or, or_self, gt_iff_lt, isMut, aFn, List.contains, List.elem, aBox, aField, aLoad, sub, aNil, aPick, aExt, aFld, gd, noJunk, plainOp, aBuildSlice, aBuild, aFill, aParts, seqParts, fitAll, List.range', ↓reduceIte, reduceCtorEq, Nat.reduceEqDiff, Nat.reduceAdd, Nat.reduceLeDiff, Nat.reduceMul, Nat.reduceLT, Nat.reduceBEq, Int.reduceEq, tf_S6_71]
        refine ⟨(), b', ?_, hb', LessL.mk (by simp -implicitDefEqProofs only [hw, Tm.av_agg, Tm.av_width, Tm.av_junk, Tm.av_store, evb0, evb1, evb2, evb3, evb4, evb5, evb6, evb7, evb8, evb9, ↓evZ2, ↓evZ3, ↓Int.cast_ofNat_Int, implies_true, ne_eq, or_false, false_or, or_self, gt_iff_lt, isMut, aFn, List.contains, List.elem, aBox, aField, aLoad, sub, aNil, aPick, aExt, aFld, gd, noJunk, plainOp, aBuildSlice, aBuild, aFill, aParts, seqParts, fitAll, List.range', ↓reduceIte, reduceCtorEq, Nat.reduceEqDiff, Nat.reduceAdd, Nat.reduceLeDiff, Nat.reduceMul, Nat.reduceLT, Nat.reduceBEq, Int.reduceEq, tf_S6_71])⟩
        rw [bindsTo_some h, List.all_append, hinv]
        simp [fitB, hok]
      · rename_i hok
        simp -implicitDefEqProofs only [Tm.av_agg, Tm.av_width, Tm.av_junk, Tm.av_store, evb0, evb1, evb2, evb3, evb4, evb5, evb6, evb7, evb8, evb9, ↓evZ2, ↓evZ3, ↓Int.cast_ofNat_Int, implies_true, ne_eq, or_false, false_or, or_self, gt_iff_lt, isMut, aFn, List.contains, List.elem, aBox, aField, aLoad, sub, aNil, aPick, aExt, aFld, gd, noJunk, plainOp, aBuildSlice, aBuild, aFill, aParts, seqParts, fitAll, List.range', ↓reduceIte, reduceCtorEq, Nat.reduceEqDiff, Nat.reduceAdd, Nat.reduceLeDiff, Nat.reduceMul, Nat.reduceLT, Nat.reduceBEq, Int.reduceEq, tf_S6_71]
        refine ⟨?_, Drops.accS (Drops.refl _) hb⟩
        unfold allAv
        rw [if_neg (bindsTo_bad hlt h hok)]
        simp only [soft_agg, soft_tup, soft_int, soft_bool, soft_str, soft_slice, soft_fslice, soft_ptr, soft_pptr, soft_map, soft_mslice, Tm.soft, List.map_cons, List.map_nil]
  · have hge' : decide ((25 : Int) + 1 < 26) = false := rfl
    rw [List.length_range] at hinv
    simp -implicitDefEqProofs only [List.length_range, hge', fin_accV, finL, fin_slice, fin_fslice, fin_bool, fin_int, fin_ptr, hS.cells, evb0, evb1, evb2, evb3, evb4, evb5, evb6, evb7, evb8, evb9, ↓evZ2, ↓evZ3, ↓Int.cast_ofNat_Int, implies_true, ne_eq, or_false, false_or, or_self, gt_iff_lt, isMut, aFn, List.contains, List.elem, aBox, aField, aLoad, sub, aNil, aPick, aExt, aFld, gd, noJunk, plainOp, aBuildSlice, aBuild, aFill, aParts, seqParts, fitAll, List.range', ↓reduceIte, reduceCtorEq, Nat.reduceEqDiff, Nat.reduceAdd, Nat.reduceLeDiff, Nat.reduceMul, Nat.reduceLT, Nat.reduceBEq, Int.reduceEq, tf_S6_71]
    rw [bindsTo_26] at hinv ⊢
    refine ⟨?_, Drops.refl _⟩
    unfold allAv
    rw [if_pos hinv]
    simp only [soft_agg, soft_tup, soft_int, soft_bool, soft_str, soft_slice, soft_fslice, soft_ptr, soft_pptr, soft_map, soft_mslice, Tm.soft, List.map_cons, List.map_nil]
theorem StepQ.drops {c m : Nat} {st st' : Store} {q' : AV} (x : StepQ c m st (.fslice []) st' q') (hc : st c = none) (hm : st m = none) : Drops st' st := fun b => by
  have key : ∀ o, st b = some o → st' b = some o := fun o h => x.frame b o h (by rintro rfl; rw [hc] at h; cases h) (by rintro rfl; rw [hm] at h; cases h) (by simp [tbk])
  refine ⟨fun h => ?_, key⟩
  cases hb : st b with
  | none => rfl
  | some o => rw [key o hb] at h; cases h
def uniAv : Option (List Bd) → AV
  | some bs => .tup [.slice (bs.map bdAv), .bool true]
  | none => .tup [.slice [], .bool false]
theorem Unif.fit {a b : Tm} {r : Bool} {σ : Sub} {tr : List Int} (h : Unif a b r σ tr) : ((bindsOf σ).all fun x => x.2.valid) = (bindsOf σ).all fitB := by
  obtain ⟨rk, B, G⟩ := h.uni.good.rs
  have key : ∀ l : List Bd, (∀ x ∈ l, x ∈ bindsOf σ) → (l.all fun x => x.2.valid) = l.all fitB := by
    intro l
    induction l with
    | nil => intro _; rfl
    | cons x l ih =>
      intro hl
      rw [List.all_cons, List.all_cons, ih fun y hy => hl y (by simp [hy])]
      congr 1
      have := hl x (by simp)
      unfold bindsOf at this
      rw [List.mem_filterMap] at this
      obtain ⟨i, _, hi⟩ := this
      cases hs : σ (i : Int) with
      | none => rw [hs] at hi; cases hi
      | some u =>
        rw [hs] at hi
        simp only [Option.map_some, Option.some.injEq] at hi
        subst hi
        exact Tm.valid_iff (G.okT h.okA (h.okA _ u hs))
  exact key _ fun _ h => h
theorem uniB_eq {a b : Tm} (ha : a.valid = true) (hb : b.valid = true) {r : Bool} {σ : Sub} {tr : List Int} (h : Unif a b r σ tr) (e : uniR a b = (r, σ, tr)) :
    uniAv (uniB a b) = if r = true then allAv σ else .tup [.slice [], .bool false] := by
  unfold uniB allAv
  rw [e]
  simp only [h.fit, ha, hb, true_and]
  cases r with
  | false => simp [uniAv]
  | true =>
    simp only [true_and, if_true]
    split <;> rfl

theorem tf_S6_23 : (type_of% tI_2) ∧ (type_of% zI_2) ∧ (type_of% Go.Proofs.Try.underlying2) ∧ (type_of% tI_3) ∧ (type_of% zI_3) ∧ (type_of% Go.Proofs.Try.underlying3) ∧ (type_of% tI_4) ∧ (type_of% zI_4) ∧ (type_of% Go.Proofs.Try.underlying4) ∧ (type_of% tI_7) ∧ (type_of% zI_7) ∧ (type_of% fI_7_0) ∧ (type_of% fI_7_1) ∧ (type_of% fI_7_2) ∧ (type_of% fI_7_3) ∧ (type_of% bI_7) ∧ (type_of% tI_8) ∧ (type_of% zI_8) ∧ (type_of% fI_8_0) ∧ (type_of% fI_8_1) ∧ (type_of% fI_8_2) ∧ (type_of% fI_8_3) ∧ (type_of% bI_8) ∧ (type_of% tI_9) ∧ (type_of% zI_9) ∧ (type_of% Go.Proofs.Try.underlying9) ∧ (type_of% tI_12) ∧ (type_of% zI_12) ∧ (type_of% Go.Proofs.Try.underlying12) ∧ (type_of% tI_13) ∧ (type_of% zI_13) ∧ (type_of% fI_13_0) ∧ (type_of% fI_13_1) ∧ (type_of% bI_13) ∧ (type_of% tI_17) ∧ (type_of% zI_17) ∧ (type_of% tI_18) ∧ (type_of% zI_18) ∧ (type_of% fI_18_0) ∧ (type_of% bI_18) ∧ (type_of% tI_19) ∧ (type_of% zI_19) ∧ (type_of% fI_19_0) ∧ (type_of% bI_19) ∧ (type_of% tI_23) ∧ (type_of% zI_23) ∧ (type_of% fI_23_0) ∧ (type_of% bI_23) ∧ (type_of% tI_24) ∧ (type_of% zI_24) ∧ (type_of% fI_24_0) ∧ (type_of% bI_24) ∧ (type_of% tI_27) ∧ (type_of% zI_27) ∧ (type_of% eI_27) ∧ (type_of% eB_27) ∧ (type_of% eZ_27) ∧ (type_of% Go.Proofs.Try.underlying27) ∧ (type_of% tI_41) ∧ (type_of% zI_41) ∧ (type_of% fI_41_0) ∧ (type_of% fI_41_1) ∧ (type_of% fI_41_2) ∧ (type_of% fI_41_3) ∧ (type_of% bI_41) ∧ (type_of% tI_44) ∧ (type_of% zI_44) ∧ (type_of% eI_44) ∧ (type_of% eB_44) ∧ (type_of% eZ_44) ∧ (type_of% Go.Proofs.Try.underlying44) ∧ (type_of% tI_71) ∧ (type_of% zI_71) ∧ (type_of% eI_71) ∧ (type_of% eB_71) ∧ (type_of% eZ_71) ∧ (type_of% Go.Proofs.Try.underlying71) ∧ (type_of% tI_102) ∧ (type_of% zI_102) ∧ (type_of% tI_131) ∧ (type_of% zI_131) ∧ (type_of% fI_131_0) ∧ (type_of% fI_131_1) ∧ (type_of% bI_131) := ⟨tI_2, zI_2, Go.Proofs.Try.underlying2, tI_3, zI_3, Go.Proofs.Try.underlying3, tI_4, zI_4, Go.Proofs.Try.underlying4, tI_7, zI_7, fI_7_0, fI_7_1, fI_7_2, fI_7_3, bI_7, tI_8, zI_8, fI_8_0, fI_8_1, fI_8_2, fI_8_3, bI_8, tI_9, zI_9, Go.Proofs.Try.underlying9, tI_12, zI_12, Go.Proofs.Try.underlying12, tI_13, zI_13, fI_13_0, fI_13_1, bI_13, tI_17, zI_17, tI_18, zI_18, fI_18_0, bI_18, tI_19, zI_19, fI_19_0, bI_19, tI_23, zI_23, fI_23_0, bI_23, tI_24, zI_24, fI_24_0, bI_24, tI_27, zI_27, eI_27, eB_27, eZ_27, Go.Proofs.Try.underlying27, tI_41, zI_41, fI_41_0, fI_41_1, fI_41_2, fI_41_3, bI_41, tI_44, zI_44, eI_44, eB_44, eZ_44, Go.Proofs.Try.underlying44, tI_71, zI_71, eI_71, eB_71, eZ_71, Go.Proofs.Try.underlying71, tI_102, zI_102, tI_131, zI_131, fI_131_0, fI_131_1, bI_131⟩
theorem c_impl_UnifyTerms (a b : Tm) (st : Store) : ACalls prog 23 [a.av, b.av] st (fun r st' => r = uniAv (uniB a b) ∧ st' = st) := by
  refine ACalls.done ?_
  refine acalls_fit [1000000] func23 ntmps23 rfl rfl (by kernel_rfl) (by decide +kernel) (by show 2 ≤ _; decide +kernel) ?_
  intro _
  simp -implicitDefEqProofs only [evb0, evb1, evb2, evb3, evb4, evb5, evb6, evb7, evb8, evb9, ↓evZ2, ↓evZ3, ↓Int.cast_ofNat_Int, implies_true, ne_eq, or_false, false_or, or_self, gt_iff_lt, isMut, aFn, List.contains, List.elem, aBox, aField, aLoad, sub, aNil, aPick, aExt, aFld, gd, noJunk, plainOp, aBuildSlice, aBuild, aFill, aParts, seqParts, fitAll, List.range', ↓reduceIte, reduceCtorEq, Nat.reduceEqDiff, Nat.reduceAdd, Nat.reduceLeDiff, Nat.reduceMul, Nat.reduceLT, Nat.reduceBEq, Int.reduceEq, tf_S6_23]
  refine (c_newStore _).mono ?_
  rintro _ s1 ⟨c, m, rfl, hS, hQ, hc, hm⟩
  have hD := hQ.drops hc hm
  have hbad : ∀ s2, Drops s2 st → ¬ (a.valid = true ∧ b.valid = true) → (AV.tup [.fslice [], .bool false]).soft = uniAv (uniB a b) ∧ Drops s2 st := fun s2 d h => by
    refine ⟨?_, d⟩
    unfold uniB
    rw [if_neg fun h2 => h ⟨h2.1, h2.2.1⟩]
    simp only [uniAv, soft_agg, soft_tup, soft_int, soft_bool, soft_str, soft_slice, soft_fslice, soft_ptr, soft_pptr, soft_map, soft_mslice, Tm.soft, List.map_cons, List.map_nil]
  simp -implicitDefEqProofs only [evb0, evb1, evb2, evb3, evb4, evb5, evb6, evb7, evb8, evb9, ↓evZ2, ↓evZ3, ↓Int.cast_ofNat_Int, implies_true, ne_eq, or_false, false_or, or_self, gt_iff_lt, isMut, aFn, List.contains, List.elem, aBox, aField, aLoad, sub, aNil, aPick, aExt, aFld, gd, noJunk, plainOp, aBuildSlice, aBuild, aFill, aParts, seqParts, fitAll, List.range', ↓reduceIte, reduceCtorEq, Nat.reduceEqDiff, Nat.reduceAdd, Nat.reduceLeDiff, Nat.reduceMul, Nat.reduceLT, Nat.reduceBEq, Int.reduceEq, tf_S6_23]
  refine (c_impl_TermValid a _).to ?_
  simp -implicitDefEqProofs only [evb0, evb1, evb2, evb3, evb4, evb5, evb6, evb7, evb8, evb9, ↓evZ2, ↓evZ3, ↓Int.cast_ofNat_Int, implies_true, ne_eq, or_false, false_or, or_self, gt_iff_lt, isMut, aFn, List.contains, List.elem, aBox, aField, aLoad, sub, aNil, aPick, aExt, aFld, gd, noJunk, plainOp, aBuildSlice, aBuild, aFill, aParts, seqParts, fitAll, List.range', ↓reduceIte, reduceCtorEq, Nat.reduceEqDiff, Nat.reduceAdd, Nat.reduceLeDiff, Nat.reduceMul, Nat.reduceLT, Nat.reduceBEq, Int.reduceEq, tf_S6_23]
  refine opsG_split (fun h => ?_) (fun h => ?_)
  case refine_2 =>
    simp -implicitDefEqProofs only [h, evb0, evb1, evb2, evb3, evb4, evb5, evb6, evb7, evb8, evb9, ↓evZ2, ↓evZ3, ↓Int.cast_ofNat_Int, implies_true, ne_eq, or_false, false_or, or_self, gt_iff_lt, isMut, aFn, List.contains, List.elem, aBox, aField, aLoad, sub, aNil, aPick, aExt, aFld, gd, noJunk, plainOp, aBuildSlice, aBuild, aFill, aParts, seqParts, fitAll, List.range', ↓reduceIte, reduceCtorEq, Nat.reduceEqDiff, Nat.reduceAdd, Nat.reduceLeDiff, Nat.reduceMul, Nat.reduceLT, Nat.reduceBEq, Int.reduceEq, tf_S6_23]
    refine hbad _ hD ?_
    simp at h
    simp [h]
  simp -implicitDefEqProofs only [h, evb0, evb1, evb2, evb3, evb4, evb5, evb6, evb7, evb8, evb9, ↓evZ2, ↓evZ3, ↓Int.cast_ofNat_Int, implies_true, ne_eq, or_false, false_or, or_self, gt_iff_lt, isMut, aFn, List.contains, List.elem, aBox, aField, aLoad, sub, aNil, aPick, aExt, aFld, gd, noJunk, plainOp, aBuildSlice, aBuild, aFill, aParts, seqParts, fitAll, List.range', ↓reduceIte, reduceCtorEq, Nat.reduceEqDiff, Nat.reduceAdd, Nat.reduceLeDiff, Nat.reduceMul, Nat.reduceLT, Nat.reduceBEq, Int.reduceEq, tf_S6_23]
  refine (c_impl_TermValid b _).to ?_
  simp -implicitDefEqProofs only [h, evb0, evb1, evb2, evb3, evb4, evb5, evb6, evb7, evb8, evb9, ↓evZ2, ↓evZ3, ↓Int.cast_ofNat_Int, implies_true, ne_eq, or_false, false_or, or_self, gt_iff_lt, isMut, aFn, List.contains, List.elem, aBox, aField, aLoad, sub, aNil, aPick, aExt, aFld, gd, noJunk, plainOp, aBuildSlice, aBuild, aFill, aParts, seqParts, fitAll, List.range', ↓reduceIte, reduceCtorEq, Nat.reduceEqDiff, Nat.reduceAdd, Nat.reduceLeDiff, Nat.reduceMul, Nat.reduceLT, Nat.reduceBEq, Int.reduceEq, tf_S6_23]
  simp only [Bool.not_eq_false'] at h
  refine opsG_split (fun h2 => ?_) (fun h2 => ?_)
  case refine_2 =>
    simp -implicitDefEqProofs only [h2, evb0, evb1, evb2, evb3, evb4, evb5, evb6, evb7, evb8, evb9, ↓evZ2, ↓evZ3, ↓Int.cast_ofNat_Int, implies_true, ne_eq, or_false, false_or, or_self, gt_iff_lt, isMut, aFn, List.contains, List.elem, aBox, aField, aLoad, sub, aNil, aPick, aExt, aFld, gd, noJunk, plainOp, aBuildSlice, aBuild, aFill, aParts, seqParts, fitAll, List.range', ↓reduceIte, reduceCtorEq, Nat.reduceEqDiff, Nat.reduceAdd, Nat.reduceLeDiff, Nat.reduceMul, Nat.reduceLT, Nat.reduceBEq, Int.reduceEq, tf_S6_23]
    refine hbad _ hD ?_
    simp at h2
    simp [h2]
  simp -implicitDefEqProofs only [h2, evb0, evb1, evb2, evb3, evb4, evb5, evb6, evb7, evb8, evb9, ↓evZ2, ↓evZ3, ↓Int.cast_ofNat_Int, implies_true, ne_eq, or_false, false_or, or_self, gt_iff_lt, isMut, aFn, List.contains, List.elem, aBox, aField, aLoad, sub, aNil, aPick, aExt, aFld, gd, noJunk, plainOp, aBuildSlice, aBuild, aFill, aParts, seqParts, fitAll, List.range', ↓reduceIte, reduceCtorEq, Nat.reduceEqDiff, Nat.reduceAdd, Nat.reduceLeDiff, Nat.reduceMul, Nat.reduceLT, Nat.reduceBEq, Int.reduceEq, tf_S6_23]
  have hb' : b.valid = true := by simpa using h2
  obtain ⟨r, σ, tr, hU, hR⟩ := unif_of h hb'
  obtain ⟨g, hg⟩ := hU.run
  have oa := Tm.valid_okA h
  have ob := Tm.valid_okA hb'
  have hlen := nodup_V25 hU.uni.nodup hU.trV
  refine (c_unify g Sub.none a b r σ tr IsGood.none (fun n u h => (by cases h)) (Tm.okA_small a oa) (Tm.okA_small b ob) hg c m _ [] s1 hS (by simp only [List.length_nil]; omega)).mono ?_
  rintro _ s2 ⟨rfl, q', hS2, hQ2⟩
  have hD2 := (hQ.trans hS hQ2).drops hc hm
  have hcv : AllS Cv σ := fun n u hu => Tm.okA_cv u (hU.okA n u hu)
  have hsm : AllS Sm σ := fun n u hu => Tm.okA_small u (hU.okA n u hu)
  rw [uniB_eq h hb' hU hR]
  simp -implicitDefEqProofs only [h2, evb0, evb1, evb2, evb3, evb4, evb5, evb6, evb7, evb8, evb9, ↓evZ2, ↓evZ3, ↓Int.cast_ofNat_Int, implies_true, ne_eq, or_false, false_or, or_self, gt_iff_lt, isMut, aFn, List.contains, List.elem, aBox, aField, aLoad, sub, aNil, aPick, aExt, aFld, gd, noJunk, plainOp, aBuildSlice, aBuild, aFill, aParts, seqParts, fitAll, List.range', ↓reduceIte, reduceCtorEq, Nat.reduceEqDiff, Nat.reduceAdd, Nat.reduceLeDiff, Nat.reduceMul, Nat.reduceLT, Nat.reduceBEq, Int.reduceEq, tf_S6_23]
  cases r with
  | false =>
    simp -implicitDefEqProofs only [evb0, evb1, evb2, evb3, evb4, evb5, evb6, evb7, evb8, evb9, ↓evZ2, ↓evZ3, ↓Int.cast_ofNat_Int, implies_true, ne_eq, or_false, false_or, or_self, gt_iff_lt, isMut, aFn, List.contains, List.elem, aBox, aField, aLoad, sub, aNil, aPick, aExt, aFld, gd, noJunk, plainOp, aBuildSlice, aBuild, aFill, aParts, seqParts, fitAll, List.range', ↓reduceIte, reduceCtorEq, Nat.reduceEqDiff, Nat.reduceAdd, Nat.reduceLeDiff, Nat.reduceMul, Nat.reduceLT, Nat.reduceBEq, Int.reduceEq, tf_S6_23]
    exact ⟨by simp only [soft_agg, soft_tup, soft_int, soft_bool, soft_str, soft_slice, soft_fslice, soft_ptr, soft_pptr, soft_map, soft_mslice, Tm.soft, List.map_cons, List.map_nil, if_false, Bool.false_eq_true], hD2⟩
  | true =>
    simp -implicitDefEqProofs only [evb0, evb1, evb2, evb3, evb4, evb5, evb6, evb7, evb8, evb9, ↓evZ2, ↓evZ3, ↓Int.cast_ofNat_Int, implies_true, ne_eq, or_false, false_or, or_self, gt_iff_lt, isMut, aFn, List.contains, List.elem, aBox, aField, aLoad, sub, aNil, aPick, aExt, aFld, gd, noJunk, plainOp, aBuildSlice, aBuild, aFill, aParts, seqParts, fitAll, List.range', ↓reduceIte, reduceCtorEq, Nat.reduceEqDiff, Nat.reduceAdd, Nat.reduceLeDiff, Nat.reduceMul, Nat.reduceLT, Nat.reduceBEq, Int.reduceEq, tf_S6_23]
    refine (c_all hU.uni.good hcv hsm c m q' _ hS2.sub).to ?_
    unfold allAv
    split
    · simp -implicitDefEqProofs only [evb0, evb1, evb2, evb3, evb4, evb5, evb6, evb7, evb8, evb9, ↓evZ2, ↓evZ3, ↓Int.cast_ofNat_Int, implies_true, ne_eq, or_false, false_or, or_self, gt_iff_lt, isMut, aFn, List.contains, List.elem, aBox, aField, aLoad, sub, aNil, aPick, aExt, aFld, gd, noJunk, plainOp, aBuildSlice, aBuild, aFill, aParts, seqParts, fitAll, List.range', ↓reduceIte, reduceCtorEq, Nat.reduceEqDiff, Nat.reduceAdd, Nat.reduceLeDiff, Nat.reduceMul, Nat.reduceLT, Nat.reduceBEq, Int.reduceEq, tf_S6_23]
      exact ⟨by simp only [soft_agg, soft_tup, soft_int, soft_bool, soft_str, soft_slice, soft_fslice, soft_ptr, soft_pptr, soft_map, soft_mslice, Tm.soft, List.map_cons, List.map_nil, if_true], hD2⟩
    · simp -implicitDefEqProofs only [evb0, evb1, evb2, evb3, evb4, evb5, evb6, evb7, evb8, evb9, ↓evZ2, ↓evZ3, ↓Int.cast_ofNat_Int, implies_true, ne_eq, or_false, false_or, or_self, gt_iff_lt, isMut, aFn, List.contains, List.elem, aBox, aField, aLoad, sub, aNil, aPick, aExt, aFld, gd, noJunk, plainOp, aBuildSlice, aBuild, aFill, aParts, seqParts, fitAll, List.range', ↓reduceIte, reduceCtorEq, Nat.reduceEqDiff, Nat.reduceAdd, Nat.reduceLeDiff, Nat.reduceMul, Nat.reduceLT, Nat.reduceBEq, Int.reduceEq, tf_S6_23]
      exact ⟨by simp only [soft_agg, soft_tup, soft_int, soft_bool, soft_str, soft_slice, soft_fslice, soft_ptr, soft_pptr, soft_map, soft_mslice, Tm.soft, List.map_cons, List.map_nil, if_true], hD2⟩
end Go.AW

/- Lists that grow, beside a block that is held. -/
namespace Go.AW
set_option linter.unusedSimpArgs false
set_option linter.unusedVariables false
/-- A loop over the places of a list that fills a list of its own, in slot d; behind it that list is never written again. -/
theorem arun_growB {P : Program} {N : Nat} {c : Code} {Q : Exit → AF → Store → Prop} {φ : AF} {st : Store} {α σ : Type} (mt : List Nat) (keep : List Nat) (l : List α) (w d : Nat) (acc : Nat → σ → List AV) (inv : Nat → σ → Prop) (ch : Nat → σ → List (Nat × AV)) (so : Nat → σ → Store)
    (hw : ∀ i s, inv i s → ∀ e ∈ acc i s, e.isJunk = false ∧ e.width = w)
    (hok : codeOk N c = true)
    (h0 : ∃ s b, inv 0 s ∧ (acc 0 s ≠ [] → so 0 s b = none) ∧ LessL φ st (keepL φ keep ((d, accV w b (acc 0 s)) :: ch 0 s)) (accS (so 0 s) b (acc 0 s)))
    (h1 : ∀ i x s b, l[i]? = some x → i < l.length → ((i : Int) < (l.length : Int)) → l.drop i = x :: l.drop (i + 1) → inv i s → (acc i s ≠ [] → so i s b = none) →
      aCode P N mt c (loopQ (fun φ' st' => ∃ s' b', inv (i + 1) s' ∧ (acc (i + 1) s' ≠ [] → so (i + 1) s' b' = none) ∧ LessL φ' st' (keepL φ keep ((d, accV w b' (acc (i + 1) s')) :: ch (i + 1) s')) (accS (so (i + 1) s') b' (acc (i + 1) s'))) Q) (frU (keepL φ keep ((d, accV w b (acc i s)) :: ch i s))) (accS (so i s) b (acc i s)))
    (h2 : ∀ s b, ¬ ((l.length : Int) < (l.length : Int)) → inv l.length s → (acc l.length s ≠ [] → so l.length s b = none) → aCode P N mt c (loopQ (fun _ _ => False) Q) (frU (finL b (acc l.length s) (keepL φ keep ((d, accV w b (acc l.length s)) :: ch l.length s)))) (so l.length s)) : ARun P N (.loop c) Q φ st := by
  have weak : ∀ (k : AF → Store → Prop) (φ0 : AF) (st0 : Store) (k' : AF → Store → Prop), (∀ φ' st', k' φ' st' → k φ' st') →
      ARun P N c (loopQ k' Q) φ0 st0 → ARun P N c (loopQ k Q) φ0 st0 := by
    intro k φ0 st0 k' hk hr a w R
    refine wp_mono (hr a w R) ?_
    rintro e a' w' ⟨φ', st', R', T, sm, q⟩
    refine ⟨φ', st', R', T, sm, ?_⟩
    cases e with
    | normal => exact hk _ _ q
    | _ => exact q
  refine arun_loop (α := Nat × σ × Nat) (fun p => p.1 ≤ l.length ∧ inv p.1 p.2.1 ∧ (acc p.1 p.2.1 ≠ [] → so p.1 p.2.1 p.2.2 = none)) (fun p => frL (keepL φ keep ((d, accV w p.2.2 (acc p.1 p.2.1)) :: ch p.1 p.2.1))) (fun p => accS (so p.1 p.2.1) p.2.2 (acc p.1 p.2.1)) (fun p => l.length - p.1) ?_ ?_
  · obtain ⟨s, b, hs, hb, hl⟩ := h0
    exact ⟨(0, s, b), ⟨Nat.zero_le _, hs, hb⟩, hl⟩
  · rintro ⟨i, s, b⟩ ⟨hi, hs, hb⟩
    simp only at hi hs hb ⊢
    rcases Nat.lt_or_ge i l.length with hlt | hge
    · refine weak _ _ _ _ ?_ (arun_code mt hok (h1 i l[i] s b (List.getElem?_eq_getElem hlt) hlt (by omega) (List.drop_eq_getElem_cons hlt) hs hb))
      rintro φ' st' ⟨s', b', h1', h2', h3'⟩
      exact ⟨(i + 1, s', b'), by simp only; omega, ⟨by simp only; omega, h1', h2'⟩, h3'⟩
    · obtain rfl : i = l.length := by omega
      refine ARun.less (less_finL b (acc l.length s) hb (fun e he => (hw _ s hs e he).1) ⟨w, fun e he => (hw _ s hs e he).2⟩ _) ?_
      refine weak _ _ _ _ ?_ (arun_code mt hok (h2 s b (by omega) hs hb))
      exact fun _ _ h => h.elim
theorem fin_ms {b bb n w : Nat} {l : List AV} (h : l ≠ [] → bb ≠ b) : (AV.mslice bb 0 n w).fin b l = .mslice bb 0 n w := by
  unfold AV.fin
  split
  · rfl
  · rename_i hl
    have : bb ≠ b := h (by rintro rfl; simp at hl)
    simp [AV.fz, this, AV.soft]
end Go.AW
