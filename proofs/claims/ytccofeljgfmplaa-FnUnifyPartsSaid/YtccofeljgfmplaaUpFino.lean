import Derived.Test.YtccofeljgfmplaaUpFinm
import Derived.Test.YtccofeljgfmplaaUpFinn
import Derived.Test.YtccofeljgfmplaaUpFinl

/- The reference's unification of terms. -/
namespace Go.AW
open Go.Proofs.Try
set_option linter.unusedSimpArgs false
set_option maxRecDepth 100000

theorem sumL_take_le' {α : Type} (f : α → Nat) (l : List α) (i : Nat) : sumL f (l.take i) ≤ sumL f l := by
  have := sumL_append f (l.take i) (l.drop i)
  rw [List.take_append_drop] at this
  omega
/-- What is left of the room. -/
def Full (v : Tm) (room : Nat) (st : Store) (r : AV) (st' : Store) : Prop :=
  st' = st ∧ ∃ (x : Tm) (left : Int), r = .tup [x.av, .int .i64 left] ∧ -1 ≤ left ∧ if v.nodes ≤ room then x = v ∧ left = (room : Int) - v.nodes else left < 0

theorem tf_P3_74 : (type_of% tI_2) ∧ (type_of% zI_2) ∧ (type_of% Go.Proofs.Try.underlying2) ∧ (type_of% tI_3) ∧ (type_of% zI_3) ∧ (type_of% Go.Proofs.Try.underlying3) ∧ (type_of% tI_4) ∧ (type_of% zI_4) ∧ (type_of% Go.Proofs.Try.underlying4) ∧ (type_of% tI_5) ∧ (type_of% zI_5) ∧ (type_of% Go.Proofs.Try.underlying5) ∧ (type_of% tI_6) ∧ (type_of% zI_6) ∧ (type_of% Go.Proofs.Try.underlying6) ∧ (type_of% tI_7) ∧ (type_of% zI_7) ∧ (type_of% fI_7_0) ∧ (type_of% fI_7_1) ∧ (type_of% fI_7_2) ∧ (type_of% fI_7_3) ∧ (type_of% bI_7) ∧ (type_of% tI_8) ∧ (type_of% zI_8) ∧ (type_of% fI_8_0) ∧ (type_of% fI_8_1) ∧ (type_of% fI_8_2) ∧ (type_of% fI_8_3) ∧ (type_of% bI_8) ∧ (type_of% tI_9) ∧ (type_of% zI_9) ∧ (type_of% Go.Proofs.Try.underlying9) ∧ (type_of% tI_10) ∧ (type_of% zI_10) ∧ (type_of% Go.Proofs.Try.underlying10) ∧ (type_of% tI_11) ∧ (type_of% zI_11) ∧ (type_of% Go.Proofs.Try.underlying11) ∧ (type_of% tI_12) ∧ (type_of% zI_12) ∧ (type_of% Go.Proofs.Try.underlying12) ∧ (type_of% tI_16) ∧ (type_of% zI_16) ∧ (type_of% tI_17) ∧ (type_of% zI_17) ∧ (type_of% tI_18) ∧ (type_of% zI_18) ∧ (type_of% fI_18_0) ∧ (type_of% bI_18) ∧ (type_of% tI_27) ∧ (type_of% zI_27) ∧ (type_of% eI_27) ∧ (type_of% eB_27) ∧ (type_of% eZ_27) ∧ (type_of% Go.Proofs.Try.underlying27) ∧ (type_of% tI_31) ∧ (type_of% zI_31) ∧ (type_of% fI_31_0) ∧ (type_of% bI_31) ∧ (type_of% tI_41) ∧ (type_of% zI_41) ∧ (type_of% fI_41_0) ∧ (type_of% fI_41_1) ∧ (type_of% fI_41_2) ∧ (type_of% fI_41_3) ∧ (type_of% bI_41) ∧ (type_of% tI_44) ∧ (type_of% zI_44) ∧ (type_of% eI_44) ∧ (type_of% eB_44) ∧ (type_of% eZ_44) ∧ (type_of% Go.Proofs.Try.underlying44) ∧ (type_of% tI_53) ∧ (type_of% zI_53) ∧ (type_of% fI_53_0) ∧ (type_of% fI_53_1) ∧ (type_of% bI_53) ∧ (type_of% tI_54) ∧ (type_of% zI_54) ∧ (type_of% fI_54_0) ∧ (type_of% fI_54_1) ∧ (type_of% bI_54) ∧ (type_of% tI_56) ∧ (type_of% zI_56) ∧ (type_of% eI_56) ∧ (type_of% eB_56) ∧ (type_of% eZ_56) ∧ (type_of% Go.Proofs.Try.underlying56) ∧ (type_of% tI_60) ∧ (type_of% zI_60) ∧ (type_of% eI_60) ∧ (type_of% eB_60) ∧ (type_of% eZ_60) ∧ (type_of% Go.Proofs.Try.underlying60) ∧ (type_of% tI_63) ∧ (type_of% zI_63) ∧ (type_of% fI_63_0) ∧ (type_of% fI_63_1) ∧ (type_of% bI_63) ∧ (type_of% tI_64) ∧ (type_of% zI_64) ∧ (type_of% fI_64_0) ∧ (type_of% fI_64_1) ∧ (type_of% bI_64) ∧ (type_of% tI_74) ∧ (type_of% zI_74) ∧ (type_of% fI_74_0) ∧ (type_of% fI_74_1) ∧ (type_of% fI_74_2) ∧ (type_of% fI_74_3) ∧ (type_of% fI_74_4) ∧ (type_of% fI_74_5) ∧ (type_of% bI_74) := ⟨tI_2, zI_2, Go.Proofs.Try.underlying2, tI_3, zI_3, Go.Proofs.Try.underlying3, tI_4, zI_4, Go.Proofs.Try.underlying4, tI_5, zI_5, Go.Proofs.Try.underlying5, tI_6, zI_6, Go.Proofs.Try.underlying6, tI_7, zI_7, fI_7_0, fI_7_1, fI_7_2, fI_7_3, bI_7, tI_8, zI_8, fI_8_0, fI_8_1, fI_8_2, fI_8_3, bI_8, tI_9, zI_9, Go.Proofs.Try.underlying9, tI_10, zI_10, Go.Proofs.Try.underlying10, tI_11, zI_11, Go.Proofs.Try.underlying11, tI_12, zI_12, Go.Proofs.Try.underlying12, tI_16, zI_16, tI_17, zI_17, tI_18, zI_18, fI_18_0, bI_18, tI_27, zI_27, eI_27, eB_27, eZ_27, Go.Proofs.Try.underlying27, tI_31, zI_31, fI_31_0, bI_31, tI_41, zI_41, fI_41_0, fI_41_1, fI_41_2, fI_41_3, bI_41, tI_44, zI_44, eI_44, eB_44, eZ_44, Go.Proofs.Try.underlying44, tI_53, zI_53, fI_53_0, fI_53_1, bI_53, tI_54, zI_54, fI_54_0, fI_54_1, bI_54, tI_56, zI_56, eI_56, eB_56, eZ_56, Go.Proofs.Try.underlying56, tI_60, zI_60, eI_60, eB_60, eZ_60, Go.Proofs.Try.underlying60, tI_63, zI_63, fI_63_0, fI_63_1, bI_63, tI_64, zI_64, fI_64_0, fI_64_1, bI_64, tI_74, zI_74, fI_74_0, fI_74_1, fI_74_2, fI_74_3, fI_74_4, fI_74_5, bI_74⟩
theorem c_l3Full {σ : Sub} {R : Int → Tm} {rk : Int → Nat} {B : Nat} (G : Good σ R rk B) (hok : AllS OkN σ) (bb : Nat) :
    ∀ (room : Nat) (t : Tm) (st : Store), room ≤ 120 → OkN t → ArrAt st bb σ → ACalls prog 74 [t.av, .mslice bb 0 26 4, .int .i64 (room : Int)] st (Full (t.mapv R) room st)
  | room, t, st, hr, ht, hS => by
    have IH := fun (room' : Nat) (hlt : room' < room) (x : Tm) st => c_l3Full G hok bb room' x st
    obtain ⟨f, hw⟩ := G.wk t
    generalize wk σ t = u at *
    have hokA : AllS OkA σ := fun n u hu => (hok n u hu).1
    have hsu := hw.all (p := OkN) hok ht
    have hcw := fun st (hS : ArrAt st bb σ) => c_l3Walk hokA hw ht.1 bb st hS
    obtain ⟨k, n, s, ts⟩ := u
    have hv := good_walked G hw (Tm.okA_cv _ hsu.1)
    rw [hv]
    obtain ⟨hlen, hsms⟩ := Tm.small_mk (Tm.okA_small _ hsu.1)
    have hle4 := (ownOk_kind (Tm.okA_own hsu.1).1).2
    have hkn := (Tm.okA_own hsu.1).2
    have hkk : ∀ x ∈ ts, OkN x := fun x hx => by
      refine ⟨hkn x hx, ?_⟩
      have := hsu.2
      rw [Tm.nodes_mk] at this
      have := sumL_mem (f := Tm.nodes) hx
      omega
    refine ACalls.dropS (ACalls.fin ?_)
    refine acalls_fit [1000000, 3, 8] func74 ntmps74 rfl rfl (by kernel_rfl) (by decide +kernel) (by show 3 ≤ _; decide +kernel) ?_
    intro _
    simp -implicitDefEqProofs only [setCells, evb0, evb1, evb2, evb3, evb4, evb5, evb6, evb7, evb8, evb9, ↓evZ2, ↓evZ3, ↓Int.cast_ofNat_Int, implies_true, ne_eq, or_false, false_or, or_self, gt_iff_lt, isMut, aFn, List.contains, List.elem, aBox, aField, aLoad, sub, aNil, aPick, aExt, aFld, gd, noJunk, plainOp, aBuildSlice, aBuild, aFill, aParts, seqParts, fitAll, List.range', ↓reduceIte, reduceCtorEq, Nat.reduceEqDiff, Nat.reduceAdd, Nat.reduceLeDiff, Nat.reduceMul, Nat.reduceLT, Nat.reduceBEq, Int.reduceEq, tf_P3_74]
    intro b3 h3 b6 h6
    have h63 : b6 ≠ b3 := by rintro rfl; rw [Store.upd_same] at h6; cases h6
    have hn6 : st b6 = none := by rw [Store.upd_ne st _ h63] at h6; exact h6
    have hb3 : b3 ≠ bb := by rintro rfl; rw [ArrAt, h3] at hS; cases hS
    have hb6 : b6 ≠ bb := by rintro rfl; rw [ArrAt, hn6] at hS; cases hS
    have hS' : ∀ o o', ArrAt ((st.upd b3 o).upd b6 o') bb σ := fun o o' => (hS.upd hb3).upd hb6
    have hwr : ∀ z : Int, -1 ≤ z → z ≤ 200 → IntKind.i64.wrap z = z := fun z h1 h2 => wrap64 (by omega) (by omega)
    have hw1 := hwr ((room : Int) - 1) (by omega) (by omega)
    refine cond_split (fun h => ?_) (fun h => ?_)
    · simp only [decide_eq_true_eq] at h
      obtain rfl : room = 0 := by omega
      simp -implicitDefEqProofs only [setCells, h63, h63.symm, hw1, evb0, evb1, evb2, evb3, evb4, evb5, evb6, evb7, evb8, evb9, ↓evZ2, ↓evZ3, ↓Int.cast_ofNat_Int, implies_true, ne_eq, or_false, false_or, or_self, gt_iff_lt, isMut, aFn, List.contains, List.elem, aBox, aField, aLoad, sub, aNil, aPick, aExt, aFld, gd, noJunk, plainOp, aBuildSlice, aBuild, aFill, aParts, seqParts, fitAll, List.range', ↓reduceIte, reduceCtorEq, Nat.reduceEqDiff, Nat.reduceAdd, Nat.reduceLeDiff, Nat.reduceMul, Nat.reduceLT, Nat.reduceBEq, Int.reduceEq, tf_P3_74]
      refine ⟨0, [], _, rfl, by simp, by simp, ⟨4, by simp⟩, st, (fun x => by by_cases e3 : x = b3 <;> by_cases e6 : x = b6 <;> simp_all [Store.upd]), rfl, Tm.zero, -1, ?_, Int.le_refl _, ?_⟩
      · simp only [Tm.zero, Tm.av_mk, fin_agg, fin_tup, fin_int, fin_bool, fin_str, fin_slice, fin_fslice, fin_pptr, fin_ptr, fin_func, fin_map, fin_undef, fin_accV, tm_fin, List.map_cons, List.map_nil]
      · rw [if_neg (by rw [Tm.nodes_mk]; omega)]; decide
    simp only [decide_eq_false_iff_not] at h
    simp -implicitDefEqProofs only [setCells, h63, h63.symm, hw1, evb0, evb1, evb2, evb3, evb4, evb5, evb6, evb7, evb8, evb9, ↓evZ2, ↓evZ3, ↓Int.cast_ofNat_Int, implies_true, ne_eq, or_false, false_or, or_self, gt_iff_lt, isMut, aFn, List.contains, List.elem, aBox, aField, aLoad, sub, aNil, aPick, aExt, aFld, gd, noJunk, plainOp, aBuildSlice, aBuild, aFill, aParts, seqParts, fitAll, List.range', ↓reduceIte, reduceCtorEq, Nat.reduceEqDiff, Nat.reduceAdd, Nat.reduceLeDiff, Nat.reduceMul, Nat.reduceLT, Nat.reduceBEq, Int.reduceEq, tf_P3_74]
    refine (hcw _ (hS' _ _)).to ?_
    simp only [Tm.av_mk]
    simp -implicitDefEqProofs only [setCells, h63, h63.symm, hw1, evb0, evb1, evb2, evb3, evb4, evb5, evb6, evb7, evb8, evb9, ↓evZ2, ↓evZ3, ↓Int.cast_ofNat_Int, implies_true, ne_eq, or_false, false_or, or_self, gt_iff_lt, isMut, aFn, List.contains, List.elem, aBox, aField, aLoad, sub, aNil, aPick, aExt, aFld, gd, noJunk, plainOp, aBuildSlice, aBuild, aFill, aParts, seqParts, fitAll, List.range', ↓reduceIte, reduceCtorEq, Nat.reduceEqDiff, Nat.reduceAdd, Nat.reduceLeDiff, Nat.reduceMul, Nat.reduceLT, Nat.reduceBEq, Int.reduceEq, tf_P3_74]
    intro b8 h8
    have h83 : b8 ≠ b3 := by rintro rfl; simp [Store.upd, h63.symm] at h8
    have h86 : b8 ≠ b6 := by rintro rfl; simp [Store.upd, h63] at h8
    have hn8 : st b8 = none := by rw [Store.upd_ne _ _ h83, Store.upd_ne _ _ h86, Store.upd_ne _ _ h83] at h8; exact h8
    have hb8 : b8 ≠ bb := by rintro rfl; rw [ArrAt, hn8] at hS; cases hS
    rw [Store.upd_mid h63]
    have hWS : ArrAt ((st.upd b6 (.cells [.int .i64 0, .int .i64 0, .str ⟨#[]⟩, .fslice []])).upd b3 (.cells [.int .i64 k, .int .i64 n, .str s, .slice (ts.map Tm.av)])) bb σ := (hS.upd hb6).upd hb3
    have hW6 : ((st.upd b6 (.cells [.int .i64 0, .int .i64 0, .str ⟨#[]⟩, .fslice []])).upd b3 (.cells [.int .i64 k, .int .i64 n, .str s, .slice (ts.map Tm.av)])) b6 = some (.cells [.int .i64 0, .int .i64 0, .str ⟨#[]⟩, .fslice []]) := by rw [Store.upd_ne _ _ h63, Store.upd_same]
    have hW3 : ((st.upd b6 (.cells [.int .i64 0, .int .i64 0, .str ⟨#[]⟩, .fslice []])).upd b3 (.cells [.int .i64 k, .int .i64 n, .str s, .slice (ts.map Tm.av)])) b3 = some (.cells [.int .i64 k, .int .i64 n, .str s, .slice (ts.map Tm.av)]) := Store.upd_same _ _ _
    have hWd : ∀ Y Z, Drops ((((st.upd b6 (.cells [.int .i64 0, .int .i64 0, .str ⟨#[]⟩, .fslice []])).upd b3 (.cells [.int .i64 k, .int .i64 n, .str s, .slice (ts.map Tm.av)])).upd b8 Z).upd b6 Y) st := fun Y Z x => by
      by_cases e3 : x = b3 <;> by_cases e6 : x = b6 <;> by_cases e8 : x = b8 <;> simp_all [Store.upd]
    generalize ((st.upd b6 (.cells [.int .i64 0, .int .i64 0, .str ⟨#[]⟩, .fslice []])).upd b3 (.cells [.int .i64 k, .int .i64 n, .str s, .slice (ts.map Tm.av)])) = W at *
    have hsum : (Tm.mk k n s (ts.map (Tm.mapv R))).nodes = 1 + sumL Tm.nodes (ts.map (Tm.mapv R)) := Tm.nodes_mk _ _ _ _
    refine arun_each (σ := Nat × List Tm × Int) [1000000, 3, 8] [1, 3, 6, 7, 8] ts
      (fun i p => (p.2.1.map Tm.av ≠ [] → (W.upd b8 (.cells ([.int .i64 k, .int .i64 n, .str s] ++ [accV 4 p.1 (p.2.1.map Tm.av)]))) p.1 = none) ∧ p.2.1.length = i ∧ -1 ≤ p.2.2 ∧
        (0 ≤ p.2.2 → p.2.1 = (ts.take i).map (Tm.mapv R) ∧ p.2.2 = (room : Int) - 1 - sumL Tm.nodes p.2.1) ∧ (p.2.2 < 0 → room < 1 + sumL Tm.nodes (ts.map (Tm.mapv R))))
      (fun i p => [(9, .int .i64 p.2.2), (10, .int .i64 i)])
      (fun i p => kidS W b8 p.1 [.int .i64 k, .int .i64 n, .str s] (p.2.1.map Tm.av)) (by decide +kernel)
      ⟨(0, [], (room : Int) - 1), ⟨fun h => absurd rfl h, rfl, by simp only; omega, fun _ => ⟨by simp, by simp [sumL]⟩, fun h => by simp only at h; omega⟩, LessL.mk (by simp -implicitDefEqProofs only [setCells, h63, h63.symm, h83, h83.symm, h86, h86.symm, hw1, List.length_map, evb0, evb1, evb2, evb3, evb4, evb5, evb6, evb7, evb8, evb9, ↓evZ2, ↓evZ3, ↓Int.cast_ofNat_Int, implies_true, ne_eq, or_false, false_or, or_self, gt_iff_lt, isMut, aFn, List.contains, List.elem, aBox, aField, aLoad, sub, aNil, aPick, aExt, aFld, gd, noJunk, plainOp, aBuildSlice, aBuild, aFill, aParts, seqParts, fitAll, List.range', ↓reduceIte, reduceCtorEq, Nat.reduceEqDiff, Nat.reduceAdd, Nat.reduceLeDiff, Nat.reduceMul, Nat.reduceLT, Nat.reduceBEq, Int.reduceEq, tf_P3_74])⟩ (fun i x p hx hlt hlt' hdr' hinv => ?_) (fun p hge hinv => ?_)
    · obtain ⟨b, acc, left⟩ := p
      obtain ⟨i1, i2, i3, i4, i5⟩ := hinv
      simp only at i1 i2 i3 i4 i5
      have h3o := kidS_ne i1 (x := b3) (by rw [hW3]; simp) h83.symm
      rw [hW3] at h3o
      simp -implicitDefEqProofs only [hlt', decide_true, beq_self_eq_true, setCells, h63, h63.symm, h83, h83.symm, h86, h86.symm, hw1, List.length_map, h3o, evb0, evb1, evb2, evb3, evb4, evb5, evb6, evb7, evb8, evb9, ↓evZ2, ↓evZ3, ↓Int.cast_ofNat_Int, implies_true, ne_eq, or_false, false_or, or_self, gt_iff_lt, isMut, aFn, List.contains, List.elem, aBox, aField, aLoad, sub, aNil, aPick, aExt, aFld, gd, noJunk, plainOp, aBuildSlice, aBuild, aFill, aParts, seqParts, fitAll, List.range', ↓reduceIte, reduceCtorEq, Nat.reduceEqDiff, Nat.reduceAdd, Nat.reduceLeDiff, Nat.reduceMul, Nat.reduceLT, Nat.reduceBEq, Int.reduceEq, tf_P3_74]
      refine cond_split (fun h9 => ?_) (fun h9 => ?_)
      case refine_2 =>
        simp only [decide_eq_false_iff_not] at h9
        have hbo := kidS_c i1
        have h6o := kidS_ne i1 (x := b6) (by rw [hW6]; simp) h86.symm
        rw [hW6] at h6o
        simp -implicitDefEqProofs only [setCells, hbo, h6o, accV_store, evb0, evb1, evb2, evb3, evb4, evb5, evb6, evb7, evb8, evb9, ↓evZ2, ↓evZ3, ↓Int.cast_ofNat_Int, implies_true, ne_eq, or_false, false_or, or_self, gt_iff_lt, isMut, aFn, List.contains, List.elem, aBox, aField, aLoad, sub, aNil, aPick, aExt, aFld, gd, noJunk, plainOp, aBuildSlice, aBuild, aFill, aParts, seqParts, fitAll, List.range', ↓reduceIte, reduceCtorEq, Nat.reduceEqDiff, Nat.reduceAdd, Nat.reduceLeDiff, Nat.reduceMul, Nat.reduceLT, Nat.reduceBEq, Int.reduceEq, tf_P3_74]
        obtain ⟨g5, g6⟩ := kidS_upd (o := .cells [.int .i64 k, .int .i64 n, .str s, accV 4 b (acc.map Tm.av)]) i1 (show W b6 ≠ none by rw [hW6]; simp) h86.symm
        refine ⟨b, _, _, g5, g6, tm_junk _, ⟨4, tm_widths _⟩, st, hWd _ _, rfl, .mk k n s acc, left, ?_, i3, ?_⟩
        · simp only [fin_tup, fin_agg, List.map_cons, List.map_nil, fin_int, fin_str, accV_fin, Tm.av_mk]
        · rw [hsum]
          skip
          rw [if_neg (by have := i5 (by omega); omega)]
          omega
      simp only [decide_eq_true_eq] at h9
      obtain ⟨e1, e2⟩ := i4 h9
      have hmem := List.mem_of_getElem? hx
      have hsl := sumL_take_le' Tm.nodes (ts.map (Tm.mapv R)) (i + 1)
      rw [← List.map_take, List.take_add_one, hx] at hsl
      simp only [Option.toList_some, List.map_append, List.map_cons, List.map_nil, sumL_append, sumL, ← e1] at hsl
      obtain ⟨room', rfl⟩ : ∃ r : Nat, left = r := ⟨left.toNat, by omega⟩
      have hlen' : (acc.map Tm.av).length = i := by rw [List.length_map, i2]
      have hw := wrap64 (n := (i : Int) + 1) (by omega) (by omega)
      have hsS : ArrAt (kidS W b8 b [.int .i64 k, .int .i64 n, .str s] (acc.map Tm.av)) bb σ := by
        unfold ArrAt
        rw [kidS_ne i1 (by rw [hWS]; simp) hb8.symm]
        exact hWS
      have hbo := kidS_c i1
      simp -implicitDefEqProofs only [setCells, hdr', List.length_map, h3o, ev_at (av := Tm.av) eI_27 hx (Tm.av_width x), Tm.av_agg, Tm.av_width, Tm.av_store, Tm.av_junk, hbo, accV_agg, accV_width, evb0, evb1, evb2, evb3, evb4, evb5, evb6, evb7, evb8, evb9, ↓evZ2, ↓evZ3, ↓Int.cast_ofNat_Int, implies_true, ne_eq, or_false, false_or, or_self, gt_iff_lt, isMut, aFn, List.contains, List.elem, aBox, aField, aLoad, sub, aNil, aPick, aExt, aFld, gd, noJunk, plainOp, aBuildSlice, aBuild, aFill, aParts, seqParts, fitAll, List.range', ↓reduceIte, reduceCtorEq, Nat.reduceEqDiff, Nat.reduceAdd, Nat.reduceLeDiff, Nat.reduceMul, Nat.reduceLT, Nat.reduceBEq, Int.reduceEq, tf_P3_74]
      refine (IH room' (by omega) x _ (by omega) (hkk x hmem) hsS).mono ?_
      rintro _ _ ⟨rfl, y, left', rfl, hl1, hl2⟩
      simp -implicitDefEqProofs only [setCells, hdr', List.length_map, h3o, ev_at (av := Tm.av) eI_27 hx (Tm.av_width x), Tm.av_agg, Tm.av_width, Tm.av_store, Tm.av_junk, hbo, accV_agg, accV_width, evb0, evb1, evb2, evb3, evb4, evb5, evb6, evb7, evb8, evb9, ↓evZ2, ↓evZ3, ↓Int.cast_ofNat_Int, implies_true, ne_eq, or_false, false_or, or_self, gt_iff_lt, isMut, aFn, List.contains, List.elem, aBox, aField, aLoad, sub, aNil, aPick, aExt, aFld, gd, noJunk, plainOp, aBuildSlice, aBuild, aFill, aParts, seqParts, fitAll, List.range', ↓reduceIte, reduceCtorEq, Nat.reduceEqDiff, Nat.reduceAdd, Nat.reduceLeDiff, Nat.reduceMul, Nat.reduceLT, Nat.reduceBEq, Int.reduceEq, tf_P3_74]
      refine acc_append eI_27 eB_27 eZ_27 rfl rfl (by intro e he; simp only [List.mem_cons, List.not_mem_nil, or_false] at he; subst he; exact ⟨Tm.av_width _, Tm.av_store _⟩) (tm_widths _) i1 (by simp only [hlen', List.length_cons, List.length_nil]; omega) (by simp only [hlen', List.length_cons, List.length_nil]; omega) (fun b' hb' => ?_)
      rw [show acc.map Tm.av ++ [y.av] = (acc ++ [y]).map Tm.av by simp] at hb' ⊢
      obtain ⟨g1, g2, g3⟩ := kidS_set hb'
      simp only [List.cons_append, List.nil_append] at g1 g3
      simp -implicitDefEqProofs only [g3, accV_cells, accV_store, Nat.le_refl, g1, hw, setCells, hdr', List.length_map, h3o, ev_at (av := Tm.av) eI_27 hx (Tm.av_width x), Tm.av_agg, Tm.av_width, Tm.av_store, Tm.av_junk, hbo, accV_agg, accV_width, evb0, evb1, evb2, evb3, evb4, evb5, evb6, evb7, evb8, evb9, ↓evZ2, ↓evZ3, ↓Int.cast_ofNat_Int, implies_true, ne_eq, or_false, false_or, or_self, gt_iff_lt, isMut, aFn, List.contains, List.elem, aBox, aField, aLoad, sub, aNil, aPick, aExt, aFld, gd, noJunk, plainOp, aBuildSlice, aBuild, aFill, aParts, seqParts, fitAll, List.range', ↓reduceIte, reduceCtorEq, Nat.reduceEqDiff, Nat.reduceAdd, Nat.reduceLeDiff, Nat.reduceMul, Nat.reduceLT, Nat.reduceBEq, Int.reduceEq, tf_P3_74]
      refine ⟨(b', acc ++ [y], left'), ⟨g2, by simp [i2], hl1, fun h => ?_, fun h => ?_⟩, LessL.mk (by simp -implicitDefEqProofs only [setCells, hdr', List.length_map, h3o, ev_at (av := Tm.av) eI_27 hx (Tm.av_width x), Tm.av_agg, Tm.av_width, Tm.av_store, Tm.av_junk, hbo, accV_agg, accV_width, evb0, evb1, evb2, evb3, evb4, evb5, evb6, evb7, evb8, evb9, ↓evZ2, ↓evZ3, ↓Int.cast_ofNat_Int, implies_true, ne_eq, or_false, false_or, or_self, gt_iff_lt, isMut, aFn, List.contains, List.elem, aBox, aField, aLoad, sub, aNil, aPick, aExt, aFld, gd, noJunk, plainOp, aBuildSlice, aBuild, aFill, aParts, seqParts, fitAll, List.range', ↓reduceIte, reduceCtorEq, Nat.reduceEqDiff, Nat.reduceAdd, Nat.reduceLeDiff, Nat.reduceMul, Nat.reduceLT, Nat.reduceBEq, Int.reduceEq, tf_P3_74])⟩
      · simp only at h
        split at hl2
        · obtain ⟨rfl, hl3⟩ := hl2
          refine ⟨by rw [List.take_add_one, hx]; simp [e1], ?_⟩
          simp only [sumL_append, sumL]
          omega
        · omega
      · simp only at h
        split at hl2
        · omega
        · omega
    · obtain ⟨b, acc, left⟩ := p
      obtain ⟨i1, i2, i3, i4, i5⟩ := hinv
      simp only at i1 i2 i3 i4 i5
      rw [List.take_length] at i4
      have h3o := kidS_ne i1 (x := b3) (by rw [hW3]; simp) h83.symm
      rw [hW3] at h3o
      simp -implicitDefEqProofs only [hge, setCells, h63, h63.symm, h83, h83.symm, h86, h86.symm, hw1, List.length_map, h3o, evb0, evb1, evb2, evb3, evb4, evb5, evb6, evb7, evb8, evb9, ↓evZ2, ↓evZ3, ↓Int.cast_ofNat_Int, implies_true, ne_eq, or_false, false_or, or_self, gt_iff_lt, isMut, aFn, List.contains, List.elem, aBox, aField, aLoad, sub, aNil, aPick, aExt, aFld, gd, noJunk, plainOp, aBuildSlice, aBuild, aFill, aParts, seqParts, fitAll, List.range', ↓reduceIte, reduceCtorEq, Nat.reduceEqDiff, Nat.reduceAdd, Nat.reduceLeDiff, Nat.reduceMul, Nat.reduceLT, Nat.reduceBEq, Int.reduceEq, tf_P3_74]
      have hbo := kidS_c i1
      have h6o := kidS_ne i1 (x := b6) (by rw [hW6]; simp) h86.symm
      rw [hW6] at h6o
      simp -implicitDefEqProofs only [setCells, hbo, h6o, accV_store, evb0, evb1, evb2, evb3, evb4, evb5, evb6, evb7, evb8, evb9, ↓evZ2, ↓evZ3, ↓Int.cast_ofNat_Int, implies_true, ne_eq, or_false, false_or, or_self, gt_iff_lt, isMut, aFn, List.contains, List.elem, aBox, aField, aLoad, sub, aNil, aPick, aExt, aFld, gd, noJunk, plainOp, aBuildSlice, aBuild, aFill, aParts, seqParts, fitAll, List.range', ↓reduceIte, reduceCtorEq, Nat.reduceEqDiff, Nat.reduceAdd, Nat.reduceLeDiff, Nat.reduceMul, Nat.reduceLT, Nat.reduceBEq, Int.reduceEq, tf_P3_74]
      obtain ⟨g5, g6⟩ := kidS_upd (o := .cells [.int .i64 k, .int .i64 n, .str s, accV 4 b (acc.map Tm.av)]) i1 (show W b6 ≠ none by rw [hW6]; simp) h86.symm
      refine ⟨b, _, _, g5, g6, tm_junk _, ⟨4, tm_widths _⟩, st, hWd _ _, rfl, .mk k n s acc, left, ?_, i3, ?_⟩
      · simp only [fin_tup, fin_agg, List.map_cons, List.map_nil, fin_int, fin_str, accV_fin, Tm.av_mk]
      · rw [hsum]
        skip
        rcases Int.lt_or_le left 0 with h9 | h9
        · rw [if_neg (by have := i5 h9; omega)]; exact h9
        · obtain ⟨e1, e2⟩ := i4 h9
          rw [← e1] at i5 ⊢
          rw [if_pos (by omega)]
          exact ⟨rfl, by omega⟩
termination_by room => room
decreasing_by exact hlt

theorem tf_P3_24 : (type_of% tI_2) ∧ (type_of% zI_2) ∧ (type_of% Go.Proofs.Try.underlying2) ∧ (type_of% tI_3) ∧ (type_of% zI_3) ∧ (type_of% Go.Proofs.Try.underlying3) ∧ (type_of% tI_4) ∧ (type_of% zI_4) ∧ (type_of% Go.Proofs.Try.underlying4) ∧ (type_of% tI_5) ∧ (type_of% zI_5) ∧ (type_of% Go.Proofs.Try.underlying5) ∧ (type_of% tI_6) ∧ (type_of% zI_6) ∧ (type_of% Go.Proofs.Try.underlying6) ∧ (type_of% tI_7) ∧ (type_of% zI_7) ∧ (type_of% fI_7_0) ∧ (type_of% fI_7_1) ∧ (type_of% fI_7_2) ∧ (type_of% fI_7_3) ∧ (type_of% bI_7) ∧ (type_of% tI_8) ∧ (type_of% zI_8) ∧ (type_of% fI_8_0) ∧ (type_of% fI_8_1) ∧ (type_of% fI_8_2) ∧ (type_of% fI_8_3) ∧ (type_of% bI_8) ∧ (type_of% tI_9) ∧ (type_of% zI_9) ∧ (type_of% Go.Proofs.Try.underlying9) ∧ (type_of% tI_10) ∧ (type_of% zI_10) ∧ (type_of% Go.Proofs.Try.underlying10) ∧ (type_of% tI_11) ∧ (type_of% zI_11) ∧ (type_of% Go.Proofs.Try.underlying11) ∧ (type_of% tI_12) ∧ (type_of% zI_12) ∧ (type_of% Go.Proofs.Try.underlying12) ∧ (type_of% tI_13) ∧ (type_of% zI_13) ∧ (type_of% fI_13_0) ∧ (type_of% fI_13_1) ∧ (type_of% bI_13) ∧ (type_of% tI_14) ∧ (type_of% zI_14) ∧ (type_of% fI_14_0) ∧ (type_of% fI_14_1) ∧ (type_of% bI_14) ∧ (type_of% tI_15) ∧ (type_of% zI_15) ∧ (type_of% tI_16) ∧ (type_of% zI_16) ∧ (type_of% tI_17) ∧ (type_of% zI_17) ∧ (type_of% tI_18) ∧ (type_of% zI_18) ∧ (type_of% fI_18_0) ∧ (type_of% bI_18) ∧ (type_of% tI_23) ∧ (type_of% zI_23) ∧ (type_of% fI_23_0) ∧ (type_of% bI_23) ∧ (type_of% tI_24) ∧ (type_of% zI_24) ∧ (type_of% fI_24_0) ∧ (type_of% bI_24) ∧ (type_of% tI_27) ∧ (type_of% zI_27) ∧ (type_of% eI_27) ∧ (type_of% eB_27) ∧ (type_of% eZ_27) ∧ (type_of% Go.Proofs.Try.underlying27) ∧ (type_of% tI_31) ∧ (type_of% zI_31) ∧ (type_of% fI_31_0) ∧ (type_of% bI_31) ∧ (type_of% tI_32) ∧ (type_of% zI_32) ∧ (type_of% fI_32_0) ∧ (type_of% bI_32) ∧ (type_of% tI_41) ∧ (type_of% zI_41) ∧ (type_of% fI_41_0) ∧ (type_of% fI_41_1) ∧ (type_of% fI_41_2) ∧ (type_of% fI_41_3) ∧ (type_of% bI_41) ∧ (type_of% tI_44) ∧ (type_of% zI_44) ∧ (type_of% eI_44) ∧ (type_of% eB_44) ∧ (type_of% eZ_44) ∧ (type_of% Go.Proofs.Try.underlying44) ∧ (type_of% tI_54) ∧ (type_of% zI_54) ∧ (type_of% fI_54_0) ∧ (type_of% fI_54_1) ∧ (type_of% bI_54) ∧ (type_of% tI_63) ∧ (type_of% zI_63) ∧ (type_of% fI_63_0) ∧ (type_of% fI_63_1) ∧ (type_of% bI_63) ∧ (type_of% tI_64) ∧ (type_of% zI_64) ∧ (type_of% fI_64_0) ∧ (type_of% fI_64_1) ∧ (type_of% bI_64) ∧ (type_of% tI_73) ∧ (type_of% zI_73) ∧ (type_of% eI_73) ∧ (type_of% eB_73) ∧ (type_of% eZ_73) ∧ (type_of% Go.Proofs.Try.underlying73) ∧ (type_of% tI_74) ∧ (type_of% zI_74) ∧ (type_of% fI_74_0) ∧ (type_of% fI_74_1) ∧ (type_of% fI_74_2) ∧ (type_of% fI_74_3) ∧ (type_of% fI_74_4) ∧ (type_of% fI_74_5) ∧ (type_of% bI_74) ∧ (type_of% tI_120) ∧ (type_of% zI_120) ∧ (type_of% fI_120_0) ∧ (type_of% fI_120_1) ∧ (type_of% fI_120_2) ∧ (type_of% fI_120_3) ∧ (type_of% fI_120_4) ∧ (type_of% fI_120_5) ∧ (type_of% fI_120_6) ∧ (type_of% bI_120) := ⟨tI_2, zI_2, Go.Proofs.Try.underlying2, tI_3, zI_3, Go.Proofs.Try.underlying3, tI_4, zI_4, Go.Proofs.Try.underlying4, tI_5, zI_5, Go.Proofs.Try.underlying5, tI_6, zI_6, Go.Proofs.Try.underlying6, tI_7, zI_7, fI_7_0, fI_7_1, fI_7_2, fI_7_3, bI_7, tI_8, zI_8, fI_8_0, fI_8_1, fI_8_2, fI_8_3, bI_8, tI_9, zI_9, Go.Proofs.Try.underlying9, tI_10, zI_10, Go.Proofs.Try.underlying10, tI_11, zI_11, Go.Proofs.Try.underlying11, tI_12, zI_12, Go.Proofs.Try.underlying12, tI_13, zI_13, fI_13_0, fI_13_1, bI_13, tI_14, zI_14, fI_14_0, fI_14_1, bI_14, tI_15, zI_15, tI_16, zI_16, tI_17, zI_17, tI_18, zI_18, fI_18_0, bI_18, tI_23, zI_23, fI_23_0, bI_23, tI_24, zI_24, fI_24_0, bI_24, tI_27, zI_27, eI_27, eB_27, eZ_27, Go.Proofs.Try.underlying27, tI_31, zI_31, fI_31_0, bI_31, tI_32, zI_32, fI_32_0, bI_32, tI_41, zI_41, fI_41_0, fI_41_1, fI_41_2, fI_41_3, bI_41, tI_44, zI_44, eI_44, eB_44, eZ_44, Go.Proofs.Try.underlying44, tI_54, zI_54, fI_54_0, fI_54_1, bI_54, tI_63, zI_63, fI_63_0, fI_63_1, bI_63, tI_64, zI_64, fI_64_0, fI_64_1, bI_64, tI_73, zI_73, eI_73, eB_73, eZ_73, Go.Proofs.Try.underlying73, tI_74, zI_74, fI_74_0, fI_74_1, fI_74_2, fI_74_3, fI_74_4, fI_74_5, bI_74, tI_120, zI_120, fI_120_0, fI_120_1, fI_120_2, fI_120_3, fI_120_4, fI_120_5, fI_120_6, bI_120⟩
theorem c_spec_UnifyTerms (a b : Tm) (st : Store) : ACalls prog 24 [a.av, b.av] st (fun r st' => r = uniAv (uniB a b) ∧ st' = st) := by
  refine ACalls.done ?_
  refine acalls_fit [1000000] func24 ntmps24 rfl rfl (by kernel_rfl) (by decide +kernel) (by show 2 ≤ _; decide +kernel) ?_
  intro _
  simp -implicitDefEqProofs only [evb0, evb1, evb2, evb3, evb4, evb5, evb6, evb7, evb8, evb9, ↓evZ2, ↓evZ3, ↓Int.cast_ofNat_Int, implies_true, ne_eq, or_false, false_or, or_self, gt_iff_lt, isMut, aFn, List.contains, List.elem, aBox, aField, aLoad, sub, aNil, aPick, aExt, aFld, gd, noJunk, plainOp, aBuildSlice, aBuild, aFill, aParts, seqParts, fitAll, List.range', ↓reduceIte, reduceCtorEq, Nat.reduceEqDiff, Nat.reduceAdd, Nat.reduceLeDiff, Nat.reduceMul, Nat.reduceLT, Nat.reduceBEq, Int.reduceEq, tf_P3_24]
  have hbad : ∀ s2, Drops s2 st → ¬ (a.valid = true ∧ b.valid = true) → (AV.tup [.fslice [], .bool false]).soft = uniAv (uniB a b) ∧ Drops s2 st := fun s2 d h => by
    refine ⟨?_, d⟩
    unfold uniB
    rw [if_neg fun h2 => h ⟨h2.1, h2.2.1⟩]
    simp only [uniAv, soft_agg, soft_tup, soft_int, soft_bool, soft_str, soft_slice, soft_fslice, soft_ptr, soft_pptr, soft_map, soft_mslice, Tm.soft, List.map_cons, List.map_nil]
  refine (c_spec_TermValid a _).to ?_
  simp -implicitDefEqProofs only [evb0, evb1, evb2, evb3, evb4, evb5, evb6, evb7, evb8, evb9, ↓evZ2, ↓evZ3, ↓Int.cast_ofNat_Int, implies_true, ne_eq, or_false, false_or, or_self, gt_iff_lt, isMut, aFn, List.contains, List.elem, aBox, aField, aLoad, sub, aNil, aPick, aExt, aFld, gd, noJunk, plainOp, aBuildSlice, aBuild, aFill, aParts, seqParts, fitAll, List.range', ↓reduceIte, reduceCtorEq, Nat.reduceEqDiff, Nat.reduceAdd, Nat.reduceLeDiff, Nat.reduceMul, Nat.reduceLT, Nat.reduceBEq, Int.reduceEq, tf_P3_24]
  refine opsG_split (fun h => ?_) (fun h => ?_)
  case refine_2 =>
    simp -implicitDefEqProofs only [h, evb0, evb1, evb2, evb3, evb4, evb5, evb6, evb7, evb8, evb9, ↓evZ2, ↓evZ3, ↓Int.cast_ofNat_Int, implies_true, ne_eq, or_false, false_or, or_self, gt_iff_lt, isMut, aFn, List.contains, List.elem, aBox, aField, aLoad, sub, aNil, aPick, aExt, aFld, gd, noJunk, plainOp, aBuildSlice, aBuild, aFill, aParts, seqParts, fitAll, List.range', ↓reduceIte, reduceCtorEq, Nat.reduceEqDiff, Nat.reduceAdd, Nat.reduceLeDiff, Nat.reduceMul, Nat.reduceLT, Nat.reduceBEq, Int.reduceEq, tf_P3_24]
    refine hbad _ (Drops.refl _) ?_
    simp at h
    simp [h]
  simp only [Bool.not_eq_false'] at h
  simp -implicitDefEqProofs only [h, evb0, evb1, evb2, evb3, evb4, evb5, evb6, evb7, evb8, evb9, ↓evZ2, ↓evZ3, ↓Int.cast_ofNat_Int, implies_true, ne_eq, or_false, false_or, or_self, gt_iff_lt, isMut, aFn, List.contains, List.elem, aBox, aField, aLoad, sub, aNil, aPick, aExt, aFld, gd, noJunk, plainOp, aBuildSlice, aBuild, aFill, aParts, seqParts, fitAll, List.range', ↓reduceIte, reduceCtorEq, Nat.reduceEqDiff, Nat.reduceAdd, Nat.reduceLeDiff, Nat.reduceMul, Nat.reduceLT, Nat.reduceBEq, Int.reduceEq, tf_P3_24]
  refine (c_spec_TermValid b _).to ?_
  simp -implicitDefEqProofs only [h, evb0, evb1, evb2, evb3, evb4, evb5, evb6, evb7, evb8, evb9, ↓evZ2, ↓evZ3, ↓Int.cast_ofNat_Int, implies_true, ne_eq, or_false, false_or, or_self, gt_iff_lt, isMut, aFn, List.contains, List.elem, aBox, aField, aLoad, sub, aNil, aPick, aExt, aFld, gd, noJunk, plainOp, aBuildSlice, aBuild, aFill, aParts, seqParts, fitAll, List.range', ↓reduceIte, reduceCtorEq, Nat.reduceEqDiff, Nat.reduceAdd, Nat.reduceLeDiff, Nat.reduceMul, Nat.reduceLT, Nat.reduceBEq, Int.reduceEq, tf_P3_24]
  refine cond_split (fun h2 => ?_) (fun h2 => ?_)
  · simp -implicitDefEqProofs only [evb0, evb1, evb2, evb3, evb4, evb5, evb6, evb7, evb8, evb9, ↓evZ2, ↓evZ3, ↓Int.cast_ofNat_Int, implies_true, ne_eq, or_false, false_or, or_self, gt_iff_lt, isMut, aFn, List.contains, List.elem, aBox, aField, aLoad, sub, aNil, aPick, aExt, aFld, gd, noJunk, plainOp, aBuildSlice, aBuild, aFill, aParts, seqParts, fitAll, List.range', ↓reduceIte, reduceCtorEq, Nat.reduceEqDiff, Nat.reduceAdd, Nat.reduceLeDiff, Nat.reduceMul, Nat.reduceLT, Nat.reduceBEq, Int.reduceEq, tf_P3_24]
    refine hbad _ (Drops.refl _) ?_
    simp at h2
    simp [h2]
  have hb' : b.valid = true := by simpa using h2
  simp -implicitDefEqProofs only [aMakeSlice, evb0, evb1, evb2, evb3, evb4, evb5, evb6, evb7, evb8, evb9, ↓evZ2, ↓evZ3, ↓Int.cast_ofNat_Int, implies_true, ne_eq, or_false, false_or, or_self, gt_iff_lt, isMut, aFn, List.contains, List.elem, aBox, aField, aLoad, sub, aNil, aPick, aExt, aFld, gd, noJunk, plainOp, aBuildSlice, aBuild, aFill, aParts, seqParts, fitAll, List.range', ↓reduceIte, reduceCtorEq, Nat.reduceEqDiff, Nat.reduceAdd, Nat.reduceLeDiff, Nat.reduceMul, Nat.reduceLT, Nat.reduceBEq, Int.reduceEq, tf_P3_24]
  refine ⟨by omega, by omega, by omega, fun bb hbb => ?_⟩
  rw [show Int.toNat 26 = 26 from rfl, madeAV_eq _ (by simp)]
  have hA0 : ArrAt (st.upd bb (.cells (List.replicate 26 [AV.int .i64 0, .int .i64 0, .str ⟨#[]⟩, .fslice []]).flatten)) bb Sub.none := by
    unfold ArrAt
    rw [Store.upd_same, ← arrS_none]
    rfl
  have hD0 : Drops (st.upd bb (.cells (List.replicate 26 [AV.int .i64 0, .int .i64 0, .str ⟨#[]⟩, .fslice []]).flatten)) st := (Drops.refl _).upd hbb
  generalize st.upd bb (.cells (List.replicate 26 [AV.int .i64 0, .int .i64 0, .str ⟨#[]⟩, .fslice []]).flatten) = s0 at *
  obtain ⟨r, σ, tr, hU, hR⟩ := unif_of h hb'
  obtain ⟨g, hg⟩ := hU.run
  have oa : OkN a := ⟨Tm.valid_okA h, Tm.valid_nodes h⟩
  have ob : OkN b := ⟨Tm.valid_okA hb', Tm.valid_nodes hb'⟩
  have hno : AllS OkN Sub.none := fun n u h => (by cases h)
  have hok := (uni_all okN_kids g).1 Sub.none a b r σ tr IsGood.none hg hno oa ob
  refine (c_l3Unify bb g Sub.none a b r σ tr IsGood.none hno oa ob hg s0 hA0).mono ?_
  rintro _ s2 ⟨rfl, hA, hk⟩
  have hD : Drops s2 st := fun x => by
    have key : ∀ o, st x = some o → s2 x = some o := fun o h => hk x o ((hD0 x).2 o h) (by rintro rfl; rw [hbb] at h; cases h)
    refine ⟨fun h => ?_, key⟩
    cases hb : st x with
    | none => rfl
    | some o => rw [key o hb] at h; cases h
  rw [uniB_eq h hb' hU hR]
  cases r with
  | false =>
    simp -implicitDefEqProofs only [evb0, evb1, evb2, evb3, evb4, evb5, evb6, evb7, evb8, evb9, ↓evZ2, ↓evZ3, ↓Int.cast_ofNat_Int, implies_true, ne_eq, or_false, false_or, or_self, gt_iff_lt, isMut, aFn, List.contains, List.elem, aBox, aField, aLoad, sub, aNil, aPick, aExt, aFld, gd, noJunk, plainOp, aBuildSlice, aBuild, aFill, aParts, seqParts, fitAll, List.range', ↓reduceIte, reduceCtorEq, Nat.reduceEqDiff, Nat.reduceAdd, Nat.reduceLeDiff, Nat.reduceMul, Nat.reduceLT, Nat.reduceBEq, Int.reduceEq, tf_P3_24]
    exact ⟨by simp only [soft_agg, soft_tup, soft_int, soft_bool, soft_str, soft_slice, soft_fslice, soft_ptr, soft_pptr, soft_map, soft_mslice, Tm.soft, List.map_cons, List.map_nil, if_false, Bool.false_eq_true], hD⟩
  | true =>
  obtain ⟨rk, B, G⟩ := hU.uni.good.rs
  simp -implicitDefEqProofs only [evb0, evb1, evb2, evb3, evb4, evb5, evb6, evb7, evb8, evb9, ↓evZ2, ↓evZ3, ↓Int.cast_ofNat_Int, implies_true, ne_eq, or_false, false_or, or_self, gt_iff_lt, isMut, aFn, List.contains, List.elem, aBox, aField, aLoad, sub, aNil, aPick, aExt, aFld, gd, noJunk, plainOp, aBuildSlice, aBuild, aFill, aParts, seqParts, fitAll, List.range', ↓reduceIte, reduceCtorEq, Nat.reduceEqDiff, Nat.reduceAdd, Nat.reduceLeDiff, Nat.reduceMul, Nat.reduceLT, Nat.reduceBEq, Int.reduceEq, tf_P3_24]
  refine arun_growB (σ := Unit) [1000000] [6, 7] (List.range 26) 5 8 (fun i _ => (bindsTo σ i).map bdAv) (fun i _ => (bindsTo σ i).all fitB = true) (fun i _ => [(4, .fslice []), (5, .bool false), (9, .int .i64 i)]) (fun _ _ => s2) (fun i _ _ e he => by simp only [List.mem_map] at he; obtain ⟨t, _, rfl⟩ := he; exact ⟨bdAv_junk t, bdAv_width t⟩) (by decide +kernel) ⟨(), 0, rfl, fun h => absurd rfl h, LessL.mk (by simp -implicitDefEqProofs only [show bindsTo σ 0 = [] from rfl, List.map_nil, accV_nil, accS_nil, evb0, evb1, evb2, evb3, evb4, evb5, evb6, evb7, evb8, evb9, ↓evZ2, ↓evZ3, ↓Int.cast_ofNat_Int, implies_true, ne_eq, or_false, false_or, or_self, gt_iff_lt, isMut, aFn, List.contains, List.elem, aBox, aField, aLoad, sub, aNil, aPick, aExt, aFld, gd, noJunk, plainOp, aBuildSlice, aBuild, aFill, aParts, seqParts, fitAll, List.range', ↓reduceIte, reduceCtorEq, Nat.reduceEqDiff, Nat.reduceAdd, Nat.reduceLeDiff, Nat.reduceMul, Nat.reduceLT, Nat.reduceBEq, Int.reduceEq, tf_P3_24])⟩ (fun i x s b hx hlt hlt' hdr hinv hb => ?_) (fun s b hge hinv hb => ?_)
  · rw [List.length_range] at hlt
    have hx' : x = i := by rw [List.getElem?_range hlt] at hx; exact (Option.some.inj hx).symm
    subst hx'
    have hlen' := bindsTo_len σ x
    have hw := wrap64 (n := (x : Int) + 1) (by omega) (by omega)
    have hlt2 : decide ((x : Int) < 26) = true := by simp; omega
    have hSA := hA.acc hb
    have hat := held_at (P := prog) (b := bb) (len := 26) eI_27 hlt
    cases hs : σ (x : Int) with
    | none =>
      obtain ⟨D, e1, e2, _⟩ := hSA.none hlt hs
      rw [← bindsTo_none hs] at hinv hb e1 ⊢
      simp -implicitDefEqProofs only [hlt2, hat, e1, e2, decide_true, evb0, evb1, evb2, evb3, evb4, evb5, evb6, evb7, evb8, evb9, ↓evZ2, ↓evZ3, ↓Int.cast_ofNat_Int, implies_true, ne_eq, or_false, false_or, or_self, gt_iff_lt, isMut, aFn, List.contains, List.elem, aBox, aField, aLoad, sub, aNil, aPick, aExt, aFld, gd, noJunk, plainOp, aBuildSlice, aBuild, aFill, aParts, seqParts, fitAll, List.range', ↓reduceIte, reduceCtorEq, Nat.reduceEqDiff, Nat.reduceAdd, Nat.reduceLeDiff, Nat.reduceMul, Nat.reduceLT, Nat.reduceBEq, Int.reduceEq, tf_P3_24]
      exact ⟨(), b, hinv, hb, LessL.mk (by simp -implicitDefEqProofs only [hw, evb0, evb1, evb2, evb3, evb4, evb5, evb6, evb7, evb8, evb9, ↓evZ2, ↓evZ3, ↓Int.cast_ofNat_Int, implies_true, ne_eq, or_false, false_or, or_self, gt_iff_lt, isMut, aFn, List.contains, List.elem, aBox, aField, aLoad, sub, aNil, aPick, aExt, aFld, gd, noJunk, plainOp, aBuildSlice, aBuild, aFill, aParts, seqParts, fitAll, List.range', ↓reduceIte, reduceCtorEq, Nat.reduceEqDiff, Nat.reduceAdd, Nat.reduceLeDiff, Nat.reduceMul, Nat.reduceLT, Nat.reduceBEq, Int.reduceEq, tf_P3_24])⟩
    | some u =>
      have ho := hok _ _ hs
      have hc := c_l3Full G hok bb 120 u (accS s2 b ((bindsTo σ x).map bdAv)) (Nat.le_refl _) ho hSA
      have hoR := G.okT hU.okA ho.1
      have hbi := @bindsTo_bad σ x u hlt hs
      obtain ⟨k', n', s', ts'⟩ := u
      have hk' : ¬ k' = 0 := by have := (ownOk_kind (Tm.okA_own ho.1).1).1; omega
      obtain ⟨D, e1, e2, e3, e4⟩ := hSA.some hlt hs
      rw [Tm.av_mk] at hc
      simp -implicitDefEqProofs only [hlt2, hat, e1, e2, e3, e4, hk', decide_false, evb0, evb1, evb2, evb3, evb4, evb5, evb6, evb7, evb8, evb9, ↓evZ2, ↓evZ3, ↓Int.cast_ofNat_Int, implies_true, ne_eq, or_false, false_or, or_self, gt_iff_lt, isMut, aFn, List.contains, List.elem, aBox, aField, aLoad, sub, aNil, aPick, aExt, aFld, gd, noJunk, plainOp, aBuildSlice, aBuild, aFill, aParts, seqParts, fitAll, List.range', ↓reduceIte, reduceCtorEq, Nat.reduceEqDiff, Nat.reduceAdd, Nat.reduceLeDiff, Nat.reduceMul, Nat.reduceLT, Nat.reduceBEq, Int.reduceEq, tf_P3_24]
      refine hc.mono ?_
      rintro _ _ ⟨rfl, y, left, rfl, hl1, hl2⟩
      simp -implicitDefEqProofs only [Tm.av_agg, Tm.av_width, Tm.av_junk, Tm.av_store, evb0, evb1, evb2, evb3, evb4, evb5, evb6, evb7, evb8, evb9, ↓evZ2, ↓evZ3, ↓Int.cast_ofNat_Int, implies_true, ne_eq, or_false, false_or, or_self, gt_iff_lt, isMut, aFn, List.contains, List.elem, aBox, aField, aLoad, sub, aNil, aPick, aExt, aFld, gd, noJunk, plainOp, aBuildSlice, aBuild, aFill, aParts, seqParts, fitAll, List.range', ↓reduceIte, reduceCtorEq, Nat.reduceEqDiff, Nat.reduceAdd, Nat.reduceLeDiff, Nat.reduceMul, Nat.reduceLT, Nat.reduceBEq, Int.reduceEq, tf_P3_24]
      refine opsG_split (fun h9 => ?_) (fun h9 => ?_)
      case refine_2 =>
        have h9' : left < 0 := by simpa using h9
        simp -implicitDefEqProofs only [h9, evb0, evb1, evb2, evb3, evb4, evb5, evb6, evb7, evb8, evb9, ↓evZ2, ↓evZ3, ↓Int.cast_ofNat_Int, implies_true, ne_eq, or_false, false_or, or_self, gt_iff_lt, isMut, aFn, List.contains, List.elem, aBox, aField, aLoad, sub, aNil, aPick, aExt, aFld, gd, noJunk, plainOp, aBuildSlice, aBuild, aFill, aParts, seqParts, fitAll, List.range', ↓reduceIte, reduceCtorEq, Nat.reduceEqDiff, Nat.reduceAdd, Nat.reduceLeDiff, Nat.reduceMul, Nat.reduceLT, Nat.reduceBEq, Int.reduceEq, tf_P3_24]
        refine ⟨?_, Drops.accS hD fun h => (hD b).1 (hb h)⟩
        have : ¬ (bindsOf σ).all fitB = true := hbi fun hf => by
          rw [if_pos hf.2] at hl2
          have := hf.2
          omega
        unfold allAv
        rw [if_neg this]
        simp only [soft_agg, soft_tup, soft_int, soft_bool, soft_str, soft_slice, soft_fslice, soft_ptr, soft_pptr, soft_map, soft_mslice, Tm.soft, List.map_cons, List.map_nil]
      have h9' : ¬ left < 0 := by simpa using h9
      have hle : ((Tm.mk k' n' s' ts').mapv (rs σ)).nodes ≤ 120 := by
        refine Classical.byContradiction fun hn => ?_
        rw [if_neg hn] at hl2
        exact h9' hl2
      rw [if_pos hle] at hl2
      obtain ⟨rfl, hl3⟩ := hl2
      simp -implicitDefEqProofs only [h9, evb0, evb1, evb2, evb3, evb4, evb5, evb6, evb7, evb8, evb9, ↓evZ2, ↓evZ3, ↓Int.cast_ofNat_Int, implies_true, ne_eq, or_false, false_or, or_self, gt_iff_lt, isMut, aFn, List.contains, List.elem, aBox, aField, aLoad, sub, aNil, aPick, aExt, aFld, gd, noJunk, plainOp, aBuildSlice, aBuild, aFill, aParts, seqParts, fitAll, List.range', ↓reduceIte, reduceCtorEq, Nat.reduceEqDiff, Nat.reduceAdd, Nat.reduceLeDiff, Nat.reduceMul, Nat.reduceLT, Nat.reduceBEq, Int.reduceEq, tf_P3_24]
      refine (c_spec_TermValid _ _).to ?_
      simp -implicitDefEqProofs only [h9, evb0, evb1, evb2, evb3, evb4, evb5, evb6, evb7, evb8, evb9, ↓evZ2, ↓evZ3, ↓Int.cast_ofNat_Int, implies_true, ne_eq, or_false, false_or, or_self, gt_iff_lt, isMut, aFn, List.contains, List.elem, aBox, aField, aLoad, sub, aNil, aPick, aExt, aFld, gd, noJunk, plainOp, aBuildSlice, aBuild, aFill, aParts, seqParts, fitAll, List.range', ↓reduceIte, reduceCtorEq, Nat.reduceEqDiff, Nat.reduceAdd, Nat.reduceLeDiff, Nat.reduceMul, Nat.reduceLT, Nat.reduceBEq, Int.reduceEq, tf_P3_24]
      refine cond_split (fun h8 => ?_) (fun h8 => ?_)
      · simp -implicitDefEqProofs only [evb0, evb1, evb2, evb3, evb4, evb5, evb6, evb7, evb8, evb9, ↓evZ2, ↓evZ3, ↓Int.cast_ofNat_Int, implies_true, ne_eq, or_false, false_or, or_self, gt_iff_lt, isMut, aFn, List.contains, List.elem, aBox, aField, aLoad, sub, aNil, aPick, aExt, aFld, gd, noJunk, plainOp, aBuildSlice, aBuild, aFill, aParts, seqParts, fitAll, List.range', ↓reduceIte, reduceCtorEq, Nat.reduceEqDiff, Nat.reduceAdd, Nat.reduceLeDiff, Nat.reduceMul, Nat.reduceLT, Nat.reduceBEq, Int.reduceEq, tf_P3_24]
        refine ⟨?_, Drops.accS hD fun h => (hD b).1 (hb h)⟩
        have : ¬ (bindsOf σ).all fitB = true := hbi fun hf => by
          have h7 := Tm.valid_iff hoR
          simp only [hf.1, hf.2, decide_true, Bool.and_self] at h7
          simp [h7] at h8
        unfold allAv
        rw [if_neg this]
        simp only [soft_agg, soft_tup, soft_int, soft_bool, soft_str, soft_slice, soft_fslice, soft_ptr, soft_pptr, soft_map, soft_mslice, Tm.soft, List.map_cons, List.map_nil]
      · simp -implicitDefEqProofs only [evb0, evb1, evb2, evb3, evb4, evb5, evb6, evb7, evb8, evb9, ↓evZ2, ↓evZ3, ↓Int.cast_ofNat_Int, implies_true, ne_eq, or_false, false_or, or_self, gt_iff_lt, isMut, aFn, List.contains, List.elem, aBox, aField, aLoad, sub, aNil, aPick, aExt, aFld, gd, noJunk, plainOp, aBuildSlice, aBuild, aFill, aParts, seqParts, fitAll, List.range', ↓reduceIte, reduceCtorEq, Nat.reduceEqDiff, Nat.reduceAdd, Nat.reduceLeDiff, Nat.reduceMul, Nat.reduceLT, Nat.reduceBEq, Int.reduceEq, tf_P3_24]
        have hv : ((Tm.mk k' n' s' ts').mapv (rs σ)).valid = true := by simpa using h8
        rw [Tm.valid_iff hoR] at hv
        rw [bdAv_mk]
        have hlen2 : ((bindsTo σ x).map bdAv).length ≤ x := by rw [List.length_map]; exact hlen'
        refine acc_append eI_44 eB_44 eZ_44 rfl rfl (by intro e he; simp only [List.mem_cons, List.not_mem_nil, or_false] at he; subst he; exact ⟨bdAv_width _, bdAv_store _⟩) (bd_widths _) hb (by simp only [List.length_cons, List.length_nil]; omega) (by simp only [List.length_cons, List.length_nil]; omega) (fun b' hb' => ?_)
        rw [show (bindsTo σ x).map bdAv ++ [bdAv ((x : Int), (Tm.mk k' n' s' ts').mapv (rs σ))] = (bindsTo σ (x + 1)).map bdAv by rw [bindsTo_some hs]; simp] at hb' ⊢
        simp -implicitDefEqProofs only [evb0, evb1, evb2, evb3, evb4, evb5, evb6, evb7, evb8, evb9, ↓evZ2, ↓evZ3, ↓Int.cast_ofNat_Int, implies_true, ne_eq, or_false, false_or, or_self, gt_iff_lt, isMut, aFn, List.contains, List.elem, aBox, aField, aLoad, sub, aNil, aPick, aExt, aFld, gd, noJunk, plainOp, aBuildSlice, aBuild, aFill, aParts, seqParts, fitAll, List.range', ↓reduceIte, reduceCtorEq, Nat.reduceEqDiff, Nat.reduceAdd, Nat.reduceLeDiff, Nat.reduceMul, Nat.reduceLT, Nat.reduceBEq, Int.reduceEq, tf_P3_24]
        refine ⟨(), b', ?_, hb', LessL.mk (by simp -implicitDefEqProofs only [hw, evb0, evb1, evb2, evb3, evb4, evb5, evb6, evb7, evb8, evb9, ↓evZ2, ↓evZ3, ↓Int.cast_ofNat_Int, implies_true, ne_eq, or_false, false_or, or_self, gt_iff_lt, isMut, aFn, List.contains, List.elem, aBox, aField, aLoad, sub, aNil, aPick, aExt, aFld, gd, noJunk, plainOp, aBuildSlice, aBuild, aFill, aParts, seqParts, fitAll, List.range', ↓reduceIte, reduceCtorEq, Nat.reduceEqDiff, Nat.reduceAdd, Nat.reduceLeDiff, Nat.reduceMul, Nat.reduceLT, Nat.reduceBEq, Int.reduceEq, tf_P3_24])⟩
        rw [bindsTo_some hs, List.all_append, hinv]
        simpa [fitB] using hv
  · have hge' : decide ((25 : Int) + 1 < 26) = false := rfl
    rw [List.length_range] at hinv hb
    have hms := @fin_ms b bb 26 4 ((bindsTo σ 26).map bdAv) (fun h => by have := hb h; rintro rfl; rw [ArrAt, this] at hA; cases hA)
    simp -implicitDefEqProofs only [List.length_range, hge', fin_accV, finL, fin_slice, fin_fslice, fin_bool, fin_int, fin_ptr, hms, evb0, evb1, evb2, evb3, evb4, evb5, evb6, evb7, evb8, evb9, ↓evZ2, ↓evZ3, ↓Int.cast_ofNat_Int, implies_true, ne_eq, or_false, false_or, or_self, gt_iff_lt, isMut, aFn, List.contains, List.elem, aBox, aField, aLoad, sub, aNil, aPick, aExt, aFld, gd, noJunk, plainOp, aBuildSlice, aBuild, aFill, aParts, seqParts, fitAll, List.range', ↓reduceIte, reduceCtorEq, Nat.reduceEqDiff, Nat.reduceAdd, Nat.reduceLeDiff, Nat.reduceMul, Nat.reduceLT, Nat.reduceBEq, Int.reduceEq, tf_P3_24]
    rw [bindsTo_26] at hinv ⊢
    refine ⟨?_, hD⟩
    unfold allAv
    rw [if_pos hinv]
    simp only [soft_agg, soft_tup, soft_int, soft_bool, soft_str, soft_slice, soft_fslice, soft_ptr, soft_pptr, soft_map, soft_mslice, Tm.soft, List.map_cons, List.map_nil]
end Go.AW


/- Draws: bytes, numbers that are picked. -/
namespace Go.AW
open Go.Proofs.Try
set_option linter.unusedSimpArgs false
set_option maxRecDepth 100000

abbrev Bt := Fin 256
def byteAv (b : Bt) : AV := .int .u8 (b.val : Int)
theorem byteAv_width (b : Bt) : (byteAv b).width = 1 := rfl
/-- What draws: bytes, and how many were drawn. -/
def RdAt (st : Store) (c : Nat) (bs : List Bt) (p : Nat) : Prop := st c = some (.cells [.slice (bs.map byteAv), .int .i64 (p : Int)])
def rdC (bs : List Bt) (p : Nat) : AO := .cells [.slice (bs.map byteAv), .int .i64 (p : Int)]

theorem tmod_nat (a b : Nat) : (a : Int).tmod (b : Int) = ((a % b : Nat) : Int) := (Int.ofNat_tmod a b).symm
theorem tdiv_nat (a b : Nat) : (a : Int).tdiv (b : Int) = ((a / b : Nat) : Int) := (Int.ofNat_tdiv a b).symm

theorem aXor_nat (a b : Nat) (ha : a < 2 ^ 62) (hb : b < 2 ^ 62) : ∃ m : Nat, aXor .i64 (a : Int) (b : Int) = (m : Int) := by
  have hx := Nat.xor_lt_two_pow ha hb
  refine ⟨a ^^^ b, ?_⟩
  unfold aXor
  show IntKind.i64.wrap (((BitVec.ofInt 64 (a : Int) ^^^ BitVec.ofInt 64 (b : Int)).toNat : Nat) : Int) = _
  rw [BitVec.ofInt_natCast, BitVec.ofInt_natCast, BitVec.toNat_xor, BitVec.toNat_ofNat, BitVec.toNat_ofNat, Nat.mod_eq_of_lt (by omega), Nat.mod_eq_of_lt (by omega)]
  rw [wrap64 (by omega) (by omega)]

theorem tf_D1_120 : (type_of% tI_2) ∧ (type_of% zI_2) ∧ (type_of% Go.Proofs.Try.underlying2) ∧ (type_of% tI_3) ∧ (type_of% zI_3) ∧ (type_of% Go.Proofs.Try.underlying3) ∧ (type_of% tI_4) ∧ (type_of% zI_4) ∧ (type_of% Go.Proofs.Try.underlying4) ∧ (type_of% tI_5) ∧ (type_of% zI_5) ∧ (type_of% Go.Proofs.Try.underlying5) ∧ (type_of% tI_6) ∧ (type_of% zI_6) ∧ (type_of% Go.Proofs.Try.underlying6) ∧ (type_of% tI_7) ∧ (type_of% zI_7) ∧ (type_of% fI_7_0) ∧ (type_of% fI_7_1) ∧ (type_of% fI_7_2) ∧ (type_of% fI_7_3) ∧ (type_of% bI_7) ∧ (type_of% tI_8) ∧ (type_of% zI_8) ∧ (type_of% fI_8_0) ∧ (type_of% fI_8_1) ∧ (type_of% fI_8_2) ∧ (type_of% fI_8_3) ∧ (type_of% bI_8) ∧ (type_of% tI_9) ∧ (type_of% zI_9) ∧ (type_of% Go.Proofs.Try.underlying9) ∧ (type_of% tI_10) ∧ (type_of% zI_10) ∧ (type_of% Go.Proofs.Try.underlying10) ∧ (type_of% tI_18) ∧ (type_of% zI_18) ∧ (type_of% fI_18_0) ∧ (type_of% bI_18) ∧ (type_of% tI_19) ∧ (type_of% zI_19) ∧ (type_of% fI_19_0) ∧ (type_of% bI_19) ∧ (type_of% tI_21) ∧ (type_of% zI_21) ∧ (type_of% Go.Proofs.Try.underlying21) ∧ (type_of% tI_22) ∧ (type_of% zI_22) ∧ (type_of% eI_22) ∧ (type_of% eB_22) ∧ (type_of% eZ_22) ∧ (type_of% Go.Proofs.Try.underlying22) ∧ (type_of% tI_23) ∧ (type_of% zI_23) ∧ (type_of% fI_23_0) ∧ (type_of% bI_23) ∧ (type_of% tI_39) ∧ (type_of% zI_39) ∧ (type_of% eI_39) ∧ (type_of% eB_39) ∧ (type_of% eZ_39) ∧ (type_of% Go.Proofs.Try.underlying39) ∧ (type_of% tI_53) ∧ (type_of% zI_53) ∧ (type_of% fI_53_0) ∧ (type_of% fI_53_1) ∧ (type_of% bI_53) ∧ (type_of% tI_56) ∧ (type_of% zI_56) ∧ (type_of% eI_56) ∧ (type_of% eB_56) ∧ (type_of% eZ_56) ∧ (type_of% Go.Proofs.Try.underlying56) ∧ (type_of% tI_64) ∧ (type_of% zI_64) ∧ (type_of% fI_64_0) ∧ (type_of% fI_64_1) ∧ (type_of% bI_64) ∧ (type_of% tI_73) ∧ (type_of% zI_73) ∧ (type_of% eI_73) ∧ (type_of% eB_73) ∧ (type_of% eZ_73) ∧ (type_of% Go.Proofs.Try.underlying73) ∧ (type_of% tI_131) ∧ (type_of% zI_131) ∧ (type_of% fI_131_0) ∧ (type_of% fI_131_1) ∧ (type_of% bI_131) ∧ (type_of% tI_140) ∧ (type_of% zI_140) ∧ (type_of% tI_180) ∧ (type_of% zI_180) ∧ (type_of% fI_180_0) ∧ (type_of% fI_180_1) ∧ (type_of% bI_180) := ⟨tI_2, zI_2, Go.Proofs.Try.underlying2, tI_3, zI_3, Go.Proofs.Try.underlying3, tI_4, zI_4, Go.Proofs.Try.underlying4, tI_5, zI_5, Go.Proofs.Try.underlying5, tI_6, zI_6, Go.Proofs.Try.underlying6, tI_7, zI_7, fI_7_0, fI_7_1, fI_7_2, fI_7_3, bI_7, tI_8, zI_8, fI_8_0, fI_8_1, fI_8_2, fI_8_3, bI_8, tI_9, zI_9, Go.Proofs.Try.underlying9, tI_10, zI_10, Go.Proofs.Try.underlying10, tI_18, zI_18, fI_18_0, bI_18, tI_19, zI_19, fI_19_0, bI_19, tI_21, zI_21, Go.Proofs.Try.underlying21, tI_22, zI_22, eI_22, eB_22, eZ_22, Go.Proofs.Try.underlying22, tI_23, zI_23, fI_23_0, bI_23, tI_39, zI_39, eI_39, eB_39, eZ_39, Go.Proofs.Try.underlying39, tI_53, zI_53, fI_53_0, fI_53_1, bI_53, tI_56, zI_56, eI_56, eB_56, eZ_56, Go.Proofs.Try.underlying56, tI_64, zI_64, fI_64_0, fI_64_1, bI_64, tI_73, zI_73, eI_73, eB_73, eZ_73, Go.Proofs.Try.underlying73, tI_131, zI_131, fI_131_0, fI_131_1, bI_131, tI_140, zI_140, tI_180, zI_180, fI_180_0, fI_180_1, bI_180⟩
theorem c_pick (bs : List Bt) (c p : Nat) (hp : p ≤ 1099511627776) (n : Nat) (hn : 1 ≤ n) (hn2 : n ≤ 1048576) (st : Store) (h : RdAt st c bs p) :
    ACalls prog 120 [.ptr c 0, .int .i64 (n : Int)] st (fun r st' => ∃ k : Nat, k < n ∧ r = .int .i64 (k : Int) ∧ st' = st.upd c (rdC bs (p + 1))) := by
  unfold RdAt at h
  refine acalls_fit [1000000] func120 ntmps120 rfl rfl (by kernel_rfl) (by decide +kernel) (by show 2 ≤ _; decide +kernel) ?_
  intro _
  have hw1 : IntKind.i64.wrap ((p : Int) + 1) = (p : Int) + 1 := wrap64 (by omega) (by omega)
  simp -implicitDefEqProofs only [setCells, h, hw1, evb0, evb1, evb2, evb3, evb4, evb5, evb6, evb7, evb8, evb9, ↓evZ2, ↓evZ3, ↓Int.cast_ofNat_Int, implies_true, ne_eq, or_false, false_or, or_self, gt_iff_lt, isMut, aFn, List.contains, List.elem, aBox, aField, aLoad, sub, aNil, aPick, aExt, aFld, gd, noJunk, plainOp, aBuildSlice, aBuild, aFill, aParts, seqParts, fitAll, List.range', ↓reduceIte, reduceCtorEq, Nat.reduceEqDiff, Nat.reduceAdd, Nat.reduceLeDiff, Nat.reduceMul, Nat.reduceLT, Nat.reduceBEq, Int.reduceEq, tf_D1_120]
  have hn1 : ¬ (n : Int) < 1 := by omega
  have hw2 : IntKind.i64.wrap ((p : Int) + 1 - 1) = (p : Int) := by rw [wrap64 (by omega) (by omega)]; omega
  have hst : ∀ (q : Store), q c = some (.cells [.slice (bs.map byteAv), .int .i64 ((p : Int) + 1)]) → True := fun _ _ => trivial
  have hrd : rdC bs (p + 1) = .cells [.slice (bs.map byteAv), .int .i64 ((p : Int) + 1)] := by simp [rdC]
  rw [hrd]
  refine opsG_split (fun h1 => ?_) (fun h1 => ?_)
  case refine_2 => simp [hn1] at h1
  simp -implicitDefEqProofs only [decide_false, beq_self_eq_true, setCells, hw1, hw2, hn1, List.length_map, evb0, evb1, evb2, evb3, evb4, evb5, evb6, evb7, evb8, evb9, ↓evZ2, ↓evZ3, ↓Int.cast_ofNat_Int, implies_true, ne_eq, or_false, false_or, or_self, gt_iff_lt, isMut, aFn, List.contains, List.elem, aBox, aField, aLoad, sub, aNil, aPick, aExt, aFld, gd, noJunk, plainOp, aBuildSlice, aBuild, aFill, aParts, seqParts, fitAll, List.range', ↓reduceIte, reduceCtorEq, Nat.reduceEqDiff, Nat.reduceAdd, Nat.reduceLeDiff, Nat.reduceMul, Nat.reduceLT, Nat.reduceBEq, Int.reduceEq, tf_D1_120]
  refine cond_split (fun h2 => ?_) (fun h2 => ?_)
  · simp -implicitDefEqProofs only [setCells, hw1, hw2, hn1, List.length_map, evb0, evb1, evb2, evb3, evb4, evb5, evb6, evb7, evb8, evb9, ↓evZ2, ↓evZ3, ↓Int.cast_ofNat_Int, implies_true, ne_eq, or_false, false_or, or_self, gt_iff_lt, isMut, aFn, List.contains, List.elem, aBox, aField, aLoad, sub, aNil, aPick, aExt, aFld, gd, noJunk, plainOp, aBuildSlice, aBuild, aFill, aParts, seqParts, fitAll, List.range', ↓reduceIte, reduceCtorEq, Nat.reduceEqDiff, Nat.reduceAdd, Nat.reduceLeDiff, Nat.reduceMul, Nat.reduceLT, Nat.reduceBEq, Int.reduceEq, tf_D1_120]
    exact ⟨0, by omega, rfl⟩
  simp -implicitDefEqProofs only [setCells, hw1, hw2, hn1, List.length_map, evb0, evb1, evb2, evb3, evb4, evb5, evb6, evb7, evb8, evb9, ↓evZ2, ↓evZ3, ↓Int.cast_ofNat_Int, implies_true, ne_eq, or_false, false_or, or_self, gt_iff_lt, isMut, aFn, List.contains, List.elem, aBox, aField, aLoad, sub, aNil, aPick, aExt, aFld, gd, noJunk, plainOp, aBuildSlice, aBuild, aFill, aParts, seqParts, fitAll, List.range', ↓reduceIte, reduceCtorEq, Nat.reduceEqDiff, Nat.reduceAdd, Nat.reduceLeDiff, Nat.reduceMul, Nat.reduceLT, Nat.reduceBEq, Int.reduceEq, tf_D1_120]
  have hbl : bs.length ≠ 0 := by simpa using h2
  refine cond_split (fun h3 => ?_) (fun h3 => ?_)
  · simp only [decide_eq_true_eq] at h3
    obtain ⟨x, hx⟩ : ∃ x, bs[p]? = some x := ⟨_, List.getElem?_eq_getElem (by omega)⟩
    have hx2 := x.isLt
    have hb1 : IntKind.i64.wrap (x.val : Int) = (x.val : Int) := wrap64 (by omega) (by omega)
    have hn0 : ¬ (n : Int) = 0 := by omega
    have hatx : aIndexAddr prog 39 (.slice (bs.map byteAv)) (.int .i64 (p : Int)) = some (.pptr (.int .u8 x.val)) := ev_at (av := byteAv) eI_39 hx (byteAv_width x)
    simp -implicitDefEqProofs only [hatx, aConvert, hb1, hn0, setCells, hw1, hw2, hn1, List.length_map, evb0, evb1, evb2, evb3, evb4, evb5, evb6, evb7, evb8, evb9, ↓evZ2, ↓evZ3, ↓Int.cast_ofNat_Int, implies_true, ne_eq, or_false, false_or, or_self, gt_iff_lt, isMut, aFn, List.contains, List.elem, aBox, aField, aLoad, sub, aNil, aPick, aExt, aFld, gd, noJunk, plainOp, aBuildSlice, aBuild, aFill, aParts, seqParts, fitAll, List.range', ↓reduceIte, reduceCtorEq, Nat.reduceEqDiff, Nat.reduceAdd, Nat.reduceLeDiff, Nat.reduceMul, Nat.reduceLT, Nat.reduceBEq, Int.reduceEq, tf_D1_120]
    exact ⟨x.val % n, Nat.mod_lt _ (by omega), by rw [tmod_nat]⟩
  · simp only [decide_eq_false_iff_not] at h3
    obtain ⟨x, hx⟩ : ∃ x, bs[p % bs.length]? = some x := ⟨_, List.getElem?_eq_getElem (Nat.mod_lt _ (by omega))⟩
    obtain ⟨y, hy⟩ : ∃ y, bs[(p * 7 + 3) % bs.length]? = some y := ⟨_, List.getElem?_eq_getElem (Nat.mod_lt _ (by omega))⟩
    have hx2 := x.isLt
    have hy2 := y.isLt
    have hl0 : ¬ (bs.length : Int) = 0 := by omega
    simp -implicitDefEqProofs only [setCells, hw1, hw2, hn1, List.length_map, evb0, evb1, evb2, evb3, evb4, evb5, evb6, evb7, evb8, evb9, ↓evZ2, ↓evZ3, ↓Int.cast_ofNat_Int, implies_true, ne_eq, or_false, false_or, or_self, gt_iff_lt, isMut, aFn, List.contains, List.elem, aBox, aField, aLoad, sub, aNil, aPick, aExt, aFld, gd, noJunk, plainOp, aBuildSlice, aBuild, aFill, aParts, seqParts, fitAll, List.range', ↓reduceIte, reduceCtorEq, Nat.reduceEqDiff, Nat.reduceAdd, Nat.reduceLeDiff, Nat.reduceMul, Nat.reduceLT, Nat.reduceBEq, Int.reduceEq, tf_D1_120]
    refine arun_planX [(0, 1), (1, 1), (2, 1), (3, 1), (4, 1), (5, 1), (6, 1), (7, 1), (8, 1), (9, 1), (10, 1), (11, 1), (12, 1), (13, 1), (14, 1), (15, 1), (16, 1), (17, 1), (18, 1), (19, 1), (20, 1), (21, 1), (22, 1), (23, 1), (24, 1), (25, 1), (26, 1), (27, 1), (28, 1), (29, 1), (30, 1), (31, 1), (32, 1), (33, 1), (34, 1), (35, 1), (36, 1), (37, 1), (38, 1), (39, 1), (40, 1), (41, 1), (42, 1), (43, 1), (44, 1), (45, 1)] [0, 1, 2, 3, 4, 5, 6, 7, 8, 9, 10, 11, 12, 13, 14, 15, 16, 17, 18, 19, 20, 21, 22, 23, 24, 25, 26, 27, 28, 29, 30, 31, 32, 33, 34, 35, 36, 37, 38, 39, 40, 41, 42, 43, 44, 45] (none0'.upd c (.cells [.slice (bs.map byteAv), .int .i64 ((p : Int) + 1)])) mixed (by decide +kernel) (by decide +kernel) (by decide +kernel) rfl (ext_one (Store.upd_same _ _ _)) ?_
    have e7 : IntKind.i64.wrap ((p : Int) * 7) = (p : Int) * 7 := wrap64 (by omega) (by omega)
    have e8 : IntKind.i64.wrap ((p : Int) * 7 + 3) = (p : Int) * 7 + 3 := wrap64 (by omega) (by omega)
    have e9 : ((p : Int) * 7 + 3).tmod (bs.length : Int) = (((p * 7 + 3) % bs.length : Nat) : Int) := by rw [← tmod_nat]; congr 1
    have f1 : IntKind.i64.wrap ((x.val : Int) * 131) = (x.val : Int) * 131 := wrap64 (by omega) (by omega)
    have f2 : IntKind.i64.wrap ((y.val : Int) * 1117) = (y.val : Int) * 1117 := wrap64 (by omega) (by omega)
    have f3 : IntKind.i64.wrap ((x.val : Int) * 131 + (y.val : Int) * 1117) = (x.val : Int) * 131 + (y.val : Int) * 1117 := wrap64 (by omega) (by omega)
    have f4 : IntKind.i64.wrap ((p : Int) * 29) = (p : Int) * 29 := wrap64 (by omega) (by omega)
    have f5 : IntKind.i64.wrap ((x.val : Int) * 131 + (y.val : Int) * 1117 + (p : Int) * 29) = (x.val : Int) * 131 + (y.val : Int) * 1117 + (p : Int) * 29 := wrap64 (by omega) (by omega)
    have hb1 : IntKind.i64.wrap (x.val : Int) = (x.val : Int) := wrap64 (by omega) (by omega)
    have hb2 : IntKind.i64.wrap (y.val : Int) = (y.val : Int) := wrap64 (by omega) (by omega)
    generalize hjx : p % bs.length = jx at *
    generalize hjy : (p * 7 + 3) % bs.length = jy at *
    have e10 : (p : Int).tmod (bs.length : Int) = (jx : Int) := by rw [tmod_nat, hjx]
    have hatx : aIndexAddr prog 39 (.slice (bs.map byteAv)) (.int .i64 (jx : Int)) = some (.pptr (.int .u8 x.val)) := ev_at (av := byteAv) eI_39 hx (byteAv_width x)
    have haty : aIndexAddr prog 39 (.slice (bs.map byteAv)) (.int .i64 (jy : Int)) = some (.pptr (.int .u8 y.val)) := ev_at (av := byteAv) eI_39 hy (byteAv_width y)
    have hdv : p / bs.length ≤ p := Nat.div_le_self _ _
    generalize hq : p / bs.length = q at *
    have hqq : IntKind.i64.wrap ((p : Int).tdiv (bs.length : Int)) = (q : Int) := by rw [tdiv_nat, hq, wrap64 (by omega) (by omega)]
    have f6 : IntKind.i64.wrap ((q : Int) * 53) = (q : Int) * 53 := wrap64 (by omega) (by omega)
    obtain ⟨z, hz, hz2⟩ : ∃ z : Nat, (x.val : Int) * 131 + (y.val : Int) * 1117 + (p : Int) * 29 + (q : Int) * 53 = (z : Int) ∧ z < 2 ^ 61 := ⟨x.val * 131 + y.val * 1117 + p * 29 + q * 53, by omega, by omega⟩
    have f7 : IntKind.i64.wrap ((x.val : Int) * 131 + (y.val : Int) * 1117 + (p : Int) * 29 + (q : Int) * 53) = (z : Int) := by rw [hz]; exact wrap64 (by omega) (by omega)
    have hz64 : z / 64 ≤ z := Nat.div_le_self _ _
    obtain ⟨m, hm⟩ := aXor_nat z (z / 64) (by omega) (by omega)
    have f8 : IntKind.i64.wrap ((z : Int).tdiv 64) = ((z / 64 : Nat) : Int) := by rw [show (64 : Int) = ((64 : Nat) : Int) from rfl, tdiv_nat, wrap64 (by omega) (by omega)]
    generalize z / 64 = z2 at *
    have hn0 : ¬ (n : Int) = 0 := by omega
    simp -implicitDefEqProofs only [setCells, hw1, hw2, hn1, List.length_map, hl0, e7, e8, e9, e10, f1, f2, f3, f4, f5, f6, f7, f8, hm, hn0, hatx, haty, hb1, hb2, hqq, aConvert, evb0, evb1, evb2, evb3, evb4, evb5, evb6, evb7, evb8, evb9, ↓evZ2, ↓evZ3, ↓Int.cast_ofNat_Int, implies_true, ne_eq, or_false, false_or, or_self, gt_iff_lt, isMut, aFn, List.contains, List.elem, aBox, aField, aLoad, sub, aNil, aPick, aExt, aFld, gd, noJunk, plainOp, aBuildSlice, aBuild, aFill, aParts, seqParts, fitAll, List.range', ↓reduceIte, reduceCtorEq, Nat.reduceEqDiff, Nat.reduceAdd, Nat.reduceLeDiff, Nat.reduceMul, Nat.reduceLT, Nat.reduceBEq, Int.reduceEq, tf_D1_120]
    exact ⟨m % n, Nat.mod_lt _ (by omega), rfl⟩
end Go.AW
