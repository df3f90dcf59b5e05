import Derived.Test.YtaifeijnedoboaaCbFinl
import Derived.Test.YtaifeijnedoboaaCbFink
import Derived.Test.YtaifeijnedoboaaCbFinj
import Derived.Test.YtaifeijnedoboaaCbFinf
import Derived.Test.YtaifeijnedoboaaCbFinh

namespace Go.AW
open Go.Proofs.Try
set_option linter.unusedSimpArgs false
set_option maxRecDepth 100000
def Rsv (v : Tm) (D : Nat) (cnt cb : Nat) (st : zy7) (r : AV) (st' : zy7) : Prop :=
  ∃ cnt' : Nat, cnt' ≤ 121 ∧ st' = st.upd cb (.cells [.int .i64 cnt']) ∧
    if v.flat D = true ∧ cnt + v.nodes ≤ 120 then r = .tup [v.av, .bool true] ∧ cnt' = cnt + v.nodes else r = .tup [Tm.zero.av, .bool false]
theorem sumL_append {α : Type} (f : α → Nat) : ∀ l m : List α, sumL f (l ++ m) = sumL f l + sumL f m
  | [], m => by simp [sumL]
  | x :: l, m => by simp only [List.cons_append, sumL, sumL_append f l m]; omega
abbrev Cv (t : Tm) : Prop := t.cv = true
theorem good_walked {σ : Sub} {R : Int → Tm} {rk : Int → Nat} {B f : Nat} (G : Good σ R rk B) {t : Tm} {k n : Int} {s : ByteArray} {ts : List Tm} (hw : WkN σ f t (.mk k n s ts)) (hc : Cv (.mk k n s ts)) : t.mapv R = .mk k n s (ts.map (Tm.mapv R)) := by
  rw [← hw.mapv G.isSol]
  by_cases hk : k = 1
  · rw [Tm.mapv_var R hk, G.free (show σ n = none from hw.end hk)]
    obtain ⟨h1, _⟩ := Tm.cv_mk.1 hc
    obtain ⟨rfl, rfl⟩ := h1 hk
    rw [hk]; rfl
  · rw [Tm.mapv_mk R hk]
abbrev tf_S5_70 := And.intro tI_2 (And.intro zI_2 (And.intro underlying2 (And.intro tI_3 (And.intro zI_3 (And.intro underlying3 (And.intro tI_4 (And.intro zI_4 (And.intro underlying4 (And.intro tI_5 (And.intro zI_5 (And.intro underlying5 (And.intro tI_6 (And.intro zI_6 (And.intro underlying6 (And.intro tI_7 (And.intro zI_7 (And.intro fI_7_0 (And.intro fI_7_1 (And.intro fI_7_2 (And.intro fI_7_3 (And.intro bI_7 (And.intro tI_8 (And.intro zI_8 (And.intro fI_8_0 (And.intro fI_8_1 (And.intro fI_8_2 (And.intro fI_8_3 (And.intro bI_8 (And.intro tI_9 (And.intro zI_9 (And.intro underlying9 (And.intro tI_10 (And.intro zI_10 (And.intro underlying10 (And.intro tI_11 (And.intro zI_11 (And.intro underlying11 (And.intro tI_12 (And.intro zI_12 (And.intro underlying12 (And.intro tI_13 (And.intro zI_13 (And.intro fI_13_0 (And.intro fI_13_1 (And.intro bI_13 (And.intro tI_14 (And.intro zI_14 (And.intro fI_14_0 (And.intro fI_14_1 (And.intro bI_14 (And.intro tI_15 (And.intro zI_15 (And.intro tI_16 (And.intro zI_16 (And.intro tI_17 (And.intro zI_17 (And.intro tI_23 (And.intro zI_23 (And.intro eI_23 (And.intro eB_23 (And.intro eZ_23 (And.intro underlying23 (And.intro tI_25 (And.intro zI_25 (And.intro fI_25_0 (And.intro fI_25_1 (And.intro fI_25_2 (And.intro fI_25_3 (And.intro bI_25 (And.intro tI_39 (And.intro zI_39 (And.intro tI_48 (And.intro zI_48 (And.intro fI_48_0 (And.intro fI_48_1 (And.intro bI_48 (And.intro tI_61 (And.intro zI_61 (And.intro eI_61 (And.intro eB_61 (And.intro eZ_61 (And.intro underlying61 (And.intro tI_67 (And.intro zI_67 (And.intro tI_68 (And.intro zI_68 (And.intro underlying68 (And.intro tI_70 (And.intro zI_70 (And.intro fI_70_0 (And.intro fI_70_1 bI_70)))))))))))))))))))))))))))))))))))))))))))))))))))))))))))))))))))))))))))))))))))))))))))
theorem c_resolving {σ : Sub} {R : Int → Tm} {rk : Int → Nat} {B : Nat} (G : Good σ R rk B) (hcv : AllS Cv σ) (hsm : AllS Sm σ) (c m cb : Nat) (q : AV) (hcb : cb ≠ c ∧ cb ≠ m) :
    ∀ (D : Nat) (t : Tm) (cnt : Nat) (st : zy7), D ≤ 31 → Cv t → Sm t → cnt ≤ 120 → SubAt st c m q σ → st cb = some (.cells [.int .i64 cnt]) →
    zq7 prog 70 [.ptr c 0, t.av, .int .i64 (31 - D : Int), .ptr cb 0] st (Rsv (t.mapv R) D cnt cb st)
  | D, t, cnt, st, hD, hct, hst, hcnt, hS, hC => by
    have IH := fun (D' : Nat) (hlt : D' < D) (x : Tm) cnt st => c_resolving G hcv hsm c m cb q hcb D' x cnt st
    obtain ⟨f, hw⟩ := G.wk t
    generalize wk σ t = u at *
    have hcu := hw.all (p := Cv) hcv hct
    have hsu := hw.all (p := Sm) hsm hst
    have hcw := fun st (hS : SubAt st c m q σ) => c_walk hw c m q st hS
    obtain ⟨k, n, s, ts⟩ := u
    have hv := good_walked G hw hcu
    rw [hv]
    obtain ⟨hlen, hsms⟩ := Tm.small_mk hsu
    obtain ⟨_, hcvs⟩ := Tm.cv_mk.1 hcu
    refine zq7.dropS (zq7.fin ?_)
    refine zw6 [1000000, 5, 10] func70 ntmps70 rfl rfl (by kernel_rfl) (by decide +kernel) (by show 4 ≤ _; decide +kernel) ?_
    intro _
    simp -implicitDefEqProofs only [zy4, evE, ↓evZ2, ↓evZ3, ↓Int.cast_ofNat_Int, implies_true, zy2, aFn, List.contains, List.elem, zq3, zy1, zq2, sub, zx3, zw2, zw3, zy3, gd, zq1, zw0, zq0, zx0, zx2, zx1, zy0, zw1, List.range', ↓reduceIte, reduceCtorEq, Nat.reduceEqDiff, Nat.reduceAdd, Nat.reduceLeDiff, Nat.reduceMul, Nat.reduceLT, Nat.reduceBEq, Int.reduceEq, tf_S5_70]
    intro b5 h5 b8 h8
    have h85 : b8 ≠ b5 := by rintro rfl; rw [zy7.upd_same] at h8; cases h8
    have hn8 : st b8 = none := by rw [zy7.upd_ne st _ h85] at h8; exact h8
    have hS' : ∀ o o', SubAt ((st.upd b5 o).upd b8 o') c m q σ := fun o o' => (hS.upd h5).upd (by rw [zy7.upd_ne _ _ h85]; exact hn8)
    have hb5 : cb ≠ b5 := by rintro rfl; rw [hC] at h5; cases h5
    have hb8 : cb ≠ b8 := by rintro rfl; rw [hC] at hn8; cases hn8
    have hwc : IntKind.i64.wrap ((cnt : Int) + 1) = (cnt : Int) + 1 := wrap64 (by omega) (by omega)
    simp -implicitDefEqProofs only [zy4, h85, h85.symm, hb5, hb8, hb5.symm, hb8.symm, hC, hwc, evE, ↓evZ2, ↓evZ3, ↓Int.cast_ofNat_Int, implies_true, zy2, aFn, List.contains, List.elem, zq3, zy1, zq2, sub, zx3, zw2, zw3, zy3, gd, zq1, zw0, zq0, zx0, zx2, zx1, zy0, zw1, List.range', ↓reduceIte, reduceCtorEq, Nat.reduceEqDiff, Nat.reduceAdd, Nat.reduceLeDiff, Nat.reduceMul, Nat.reduceLT, Nat.reduceBEq, Int.reduceEq, tf_S5_70]
    refine (hcw _ (hS' _ _)).to ?_
    simp only [Tm.av_mk]
    simp -implicitDefEqProofs only [zy4, h85, h85.symm, hb5, hb8, hb5.symm, hb8.symm, hC, hwc, evE, ↓evZ2, ↓evZ3, ↓Int.cast_ofNat_Int, implies_true, zy2, aFn, List.contains, List.elem, zq3, zy1, zq2, sub, zx3, zw2, zw3, zy3, gd, zq1, zw0, zq0, zx0, zx2, zx1, zy0, zw1, List.range', ↓reduceIte, reduceCtorEq, Nat.reduceEqDiff, Nat.reduceAdd, Nat.reduceLeDiff, Nat.reduceMul, Nat.reduceLT, Nat.reduceBEq, Int.reduceEq, tf_S5_70]
    have hfail : ∀ (st' : zy7) (cnt' : Nat), cnt' ≤ 121 → Drops st' (st.upd cb (.cells [.int .i64 cnt'])) → ¬ ((Tm.mk k n s (ts.map (Tm.mapv R))).flat D = true ∧ cnt + (Tm.mk k n s (ts.map (Tm.mapv R))).nodes ≤ 120) →
        ∃ b l s0, st' = accS s0 b l ∧ (l ≠ [] → s0 b = none) ∧ (∀ e ∈ l, e.isJunk = false) ∧ Even l ∧ ∃ s2, Drops s0 s2 ∧ Rsv (Tm.mk k n s (ts.map (Tm.mapv R))) D cnt cb st (AV.fin b l (.tup [.agg [.int .i64 0, .int .i64 0, .str ⟨#[]⟩, .fslice []], .bool false])) s2 := fun st' cnt' h1 h2 h3 => by
      refine ⟨0, [], st', rfl, by simp, by simp, ⟨4, by simp⟩, _, h2, cnt', h1, rfl, ?_⟩
      rw [if_neg h3]
      simp only [Tm.zero, Tm.av_mk, fin_agg, fin_tup, fin_int, fin_bool, fin_str, fin_slice, fin_fslice, fin_pptr, fin_ptr, fin_func, fin_map, fin_undef, fin_accV, tm_fin, List.map_cons, List.map_nil]
    have hdr : ∀ o5 o8 o5' o8' cnt', Drops (((((st.upd b5 o5).upd b8 o8).upd b5 o5').upd cb (.cells [.int .i64 cnt'])).upd b8 o8') (st.upd cb (.cells [.int .i64 cnt'])) := fun o5 o8 o5' o8' cnt' x => by
      by_cases e5 : x = b5 <;> by_cases e8 : x = b8 <;> by_cases ec : x = cb <;> simp_all [zy7.upd]
    refine zx4 (fun h => ?_) (fun h => ?_)
    case refine_2 =>
      simp -implicitDefEqProofs only [h, zy4, h85, h85.symm, hb5, hb8, hb5.symm, hb8.symm, hC, hwc, evE, ↓evZ2, ↓evZ3, ↓Int.cast_ofNat_Int, implies_true, zy2, aFn, List.contains, List.elem, zq3, zy1, zq2, sub, zx3, zw2, zw3, zy3, gd, zq1, zw0, zq0, zx0, zx2, zx1, zy0, zw1, List.range', ↓reduceIte, reduceCtorEq, Nat.reduceEqDiff, Nat.reduceAdd, Nat.reduceLeDiff, Nat.reduceMul, Nat.reduceLT, Nat.reduceBEq, Int.reduceEq, tf_S5_70]
      refine hfail _ (cnt + 1) (by omega) (hdr _ _ _ _ _) ?_
      simp at h
      rw [Tm.nodes_mk]
      omega
    simp -implicitDefEqProofs only [h, zy4, h85, h85.symm, hb5, hb8, hb5.symm, hb8.symm, hC, hwc, evE, ↓evZ2, ↓evZ3, ↓Int.cast_ofNat_Int, implies_true, zy2, aFn, List.contains, List.elem, zq3, zy1, zq2, sub, zx3, zw2, zw3, zy3, gd, zq1, zw0, zq0, zx0, zx2, zx1, zy0, zw1, List.range', ↓reduceIte, reduceCtorEq, Nat.reduceEqDiff, Nat.reduceAdd, Nat.reduceLeDiff, Nat.reduceMul, Nat.reduceLT, Nat.reduceBEq, Int.reduceEq, tf_S5_70]
    simp at h
    refine zq4 (fun h2 => ?_) (fun h2 => ?_)
    · simp only [decide_eq_true_eq] at h2
      obtain rfl : D = 0 := by omega
      simp -implicitDefEqProofs only [zy4, h85, h85.symm, hb5, hb8, hb5.symm, hb8.symm, hC, hwc, evE, ↓evZ2, ↓evZ3, ↓Int.cast_ofNat_Int, implies_true, zy2, aFn, List.contains, List.elem, zq3, zy1, zq2, sub, zx3, zw2, zw3, zy3, gd, zq1, zw0, zq0, zx0, zx2, zx1, zy0, zw1, List.range', ↓reduceIte, reduceCtorEq, Nat.reduceEqDiff, Nat.reduceAdd, Nat.reduceLeDiff, Nat.reduceMul, Nat.reduceLT, Nat.reduceBEq, Int.reduceEq, tf_S5_70]
      exact hfail _ (cnt + 1) (by omega) (hdr _ _ _ _ _) (by rw [Tm.flat_zero]; simp)
    simp only [decide_eq_false_iff_not] at h2
    obtain ⟨D', rfl⟩ : ∃ D', D = D' + 1 := ⟨D - 1, by omega⟩
    have hdeep : IntKind.i64.wrap (31 - ((D' : Int) + 1) + 1) = 31 - (D' : Int) := by rw [wrap64 (by omega) (by omega)]; omega
    simp -implicitDefEqProofs only [zy4, h85, h85.symm, hb5, hb8, hb5.symm, hb8.symm, hC, hwc, evE, ↓evZ2, ↓evZ3, ↓Int.cast_ofNat_Int, implies_true, zy2, aFn, List.contains, List.elem, zq3, zy1, zq2, sub, zx3, zw2, zw3, zy3, gd, zq1, zw0, zq0, zx0, zx2, zx1, zy0, zw1, List.range', ↓reduceIte, reduceCtorEq, Nat.reduceEqDiff, Nat.reduceAdd, Nat.reduceLeDiff, Nat.reduceMul, Nat.reduceLT, Nat.reduceBEq, Int.reduceEq, tf_S5_70]
    intro b10 h10
    have h105 : b10 ≠ b5 := by rintro rfl; simp [zy7.upd, hb5.symm] at h10
    have h108 : b10 ≠ b8 := by rintro rfl; simp [zy7.upd, h85, hb8.symm] at h10
    have h10c : b10 ≠ cb := by rintro rfl; simp [zy7.upd] at h10
    have hn10 : st b10 = none := by rw [zy7.upd_ne _ _ h10c, zy7.upd_ne _ _ h105, zy7.upd_ne _ _ h108, zy7.upd_ne _ _ h105] at h10; exact h10
    simp -implicitDefEqProofs only [zy4, h85, h85.symm, hb5, hb8, hb5.symm, hb8.symm, h105, h105.symm, h108, h108.symm, h10c, h10c.symm, hdeep, List.length_map, evE, ↓evZ2, ↓evZ3, ↓Int.cast_ofNat_Int, implies_true, zy2, aFn, List.contains, List.elem, zq3, zy1, zq2, sub, zx3, zw2, zw3, zy3, gd, zq1, zw0, zq0, zx0, zx2, zx1, zy0, zw1, List.range', ↓reduceIte, reduceCtorEq, Nat.reduceEqDiff, Nat.reduceAdd, Nat.reduceLeDiff, Nat.reduceMul, Nat.reduceLT, Nat.reduceBEq, Int.reduceEq, tf_S5_70]
    rw [zy7.upd_mid h85]
    have hWS : SubAt ((st.upd b8 (.cells [.int .i64 0, .int .i64 0, .str ⟨#[]⟩, .fslice []])).upd b5 (.cells [.int .i64 k, .int .i64 n, .str s, .slice (ts.map Tm.av)])) c m q σ := (hS.upd hn8).upd (by rw [zy7.upd_ne _ _ h85.symm]; exact h5)
    have hW8 : ((st.upd b8 (.cells [.int .i64 0, .int .i64 0, .str ⟨#[]⟩, .fslice []])).upd b5 (.cells [.int .i64 k, .int .i64 n, .str s, .slice (ts.map Tm.av)])) b8 = some (.cells [.int .i64 0, .int .i64 0, .str ⟨#[]⟩, .fslice []]) := by rw [zy7.upd_ne _ _ h85, zy7.upd_same]
    have hWd : ∀ X Y Z, Drops (((((st.upd b8 (.cells [.int .i64 0, .int .i64 0, .str ⟨#[]⟩, .fslice []])).upd b5 (.cells [.int .i64 k, .int .i64 n, .str s, .slice (ts.map Tm.av)])).upd cb X).upd b8 Y).upd b10 Z) (st.upd cb X) := fun X Y Z x => by
      by_cases e5 : x = b5 <;> by_cases e8 : x = b8 <;> by_cases ec : x = cb <;> by_cases e10 : x = b10 <;> simp_all [zy7.upd]
    generalize ((st.upd b8 (.cells [.int .i64 0, .int .i64 0, .str ⟨#[]⟩, .fslice []])).upd b5 (.cells [.int .i64 k, .int .i64 n, .str s, .slice (ts.map Tm.av)])) = W at *
    obtain ⟨h10cc, h10m⟩ := hS.ne hn10
    refine zy5 (σ := Nat) [1000000, 5, 10] [0, 2, 3, 8, 10, 40, 41] ts
      (fun i b => (((ts.take i).map (Tm.mapv R)).map Tm.av ≠ [] → (zy7.upd (W.upd cb (.cells [.int .i64 ((cnt + 1 + sumL Tm.nodes ((ts.take i).map (Tm.mapv R)) : Nat) : Int)])) b10 (.cells ([.int .i64 k, .int .i64 n, .str s] ++ [accV 4 b (((ts.take i).map (Tm.mapv R)).map Tm.av)]))) b = none) ∧
        cnt + 1 + sumL Tm.nodes ((ts.take i).map (Tm.mapv R)) ≤ 120 ∧ ((ts.take i).map (Tm.mapv R)).all (fun x => x.flat D') = true)
      (fun i b => [(9, .bool false), (42, .int .i64 i)])
      (fun i b => kidS (W.upd cb (.cells [.int .i64 ((cnt + 1 + sumL Tm.nodes ((ts.take i).map (Tm.mapv R)) : Nat) : Int)])) b10 b [.int .i64 k, .int .i64 n, .str s] (((ts.take i).map (Tm.mapv R)).map Tm.av)) (by decide +kernel)
      ⟨0, ⟨fun h => absurd rfl h, by simp [sumL]; omega, by simp⟩, zx7.mk (by simp -implicitDefEqProofs only [zy4, h85, h85.symm, hb5, hb8, hb5.symm, hb8.symm, h105, h105.symm, h108, h108.symm, h10c, h10c.symm, hdeep, List.length_map, evE, ↓evZ2, ↓evZ3, ↓Int.cast_ofNat_Int, implies_true, zy2, aFn, List.contains, List.elem, zq3, zy1, zq2, sub, zx3, zw2, zw3, zy3, gd, zq1, zw0, zq0, zx0, zx2, zx1, zy0, zw1, List.range', ↓reduceIte, reduceCtorEq, Nat.reduceEqDiff, Nat.reduceAdd, Nat.reduceLeDiff, Nat.reduceMul, Nat.reduceLT, Nat.reduceBEq, Int.reduceEq, tf_S5_70])⟩ (fun i x b hx hlt hlt' hdr' hinv => ?_) (fun b hge hinv => ?_)
    · obtain ⟨i1, i2, i3⟩ := hinv
      have htk : (ts.take (i + 1)).map (Tm.mapv R) = (ts.take i).map (Tm.mapv R) ++ [x.mapv R] := by rw [List.take_add_one, hx]; simp
      have hlen' : (((ts.take i).map (Tm.mapv R)).map Tm.av).length = i := by simp only [List.length_map, List.length_take]; omega
      have hw := wrap64 (n := (i : Int) + 1) (by omega) (by omega)
      have hmem := List.mem_of_getElem? hx
      generalize hl0 : (ts.take i).map (Tm.mapv R) = l0 at *
      generalize hc0 : cnt + 1 + sumL Tm.nodes l0 = c0 at *
      have hWc : (W.upd cb (.cells [.int .i64 (c0 : Int)])) cb ≠ none := by rw [zy7.upd_same]; simp
      have hs1 := kidS_ne i1 hWc h10c.symm
      have hsS : SubAt (kidS (W.upd cb (.cells [.int .i64 (c0 : Int)])) b10 b [.int .i64 k, .int .i64 n, .str s] (l0.map Tm.av)) c m q σ := by
        have h1 := (hWS.upd2 (o := .cells [.int .i64 (c0 : Int)]) hcb.1 hcb.2)
        exact ⟨by rw [kidS_ne i1 (by rw [h1.cells]; simp) h10cc.symm]; exact h1.cells, by rw [kidS_ne i1 (by rw [h1.map]; simp) h10m.symm]; exact h1.map⟩
      rw [zy7.upd_same] at hs1
      simp -implicitDefEqProofs only [hlt', zy4, hdeep, List.length_map, ev_at (av := Tm.av) eI_23 hx (Tm.av_width x), Tm.av_agg, Tm.av_width, evE, ↓evZ2, ↓evZ3, ↓Int.cast_ofNat_Int, implies_true, zy2, aFn, List.contains, List.elem, zq3, zy1, zq2, sub, zx3, zw2, zw3, zy3, gd, zq1, zw0, zq0, zx0, zx2, zx1, zy0, zw1, List.range', ↓reduceIte, reduceCtorEq, Nat.reduceEqDiff, Nat.reduceAdd, Nat.reduceLeDiff, Nat.reduceMul, Nat.reduceLT, Nat.reduceBEq, Int.reduceEq, tf_S5_70]
      refine (IH D' (Nat.lt_succ_self _) x c0 _ (by omega) (hcvs x hmem) (hsms x hmem) i2 hsS hs1).mono ?_
      rintro r s2 ⟨cnt', hcnt', rfl, hr⟩
      obtain ⟨e1, i1'⟩ := kidS_beside (o := .cells [.int .i64 (cnt' : Int)]) i1 hWc h10c.symm
      rw [e1, zy7.upd_upd]
      rw [zy7.upd_upd] at i1'
      have hnot : (ts.map (Tm.mapv R)) = l0 ++ (x.mapv R) :: (ts.drop (i + 1)).map (Tm.mapv R) := by rw [← hl0, ← List.map_cons, ← hdr', ← List.map_append, List.take_append_drop]
      by_cases hok : (x.mapv R).flat D' = true ∧ c0 + (x.mapv R).nodes ≤ 120
      · rw [if_pos hok] at hr
        obtain ⟨rfl, rfl⟩ := hr
        have hbo := kidS_c i1'
        simp -implicitDefEqProofs only [zy4, hdeep, List.length_map, ev_at (av := Tm.av) eI_23 hx (Tm.av_width x), Tm.av_agg, Tm.av_width, Tm.av_store, Tm.av_junk, hbo, accV_agg, accV_width, evE, ↓evZ2, ↓evZ3, ↓Int.cast_ofNat_Int, implies_true, zy2, aFn, List.contains, List.elem, zq3, zy1, zq2, sub, zx3, zw2, zw3, zy3, gd, zq1, zw0, zq0, zx0, zx2, zx1, zy0, zw1, List.range', ↓reduceIte, reduceCtorEq, Nat.reduceEqDiff, Nat.reduceAdd, Nat.reduceLeDiff, Nat.reduceMul, Nat.reduceLT, Nat.reduceBEq, Int.reduceEq, tf_S5_70]
        refine acc_append eI_23 eB_23 eZ_23 rfl rfl (by intro e he; simp only [List.mem_cons, List.not_mem_nil, or_false] at he; subst he; exact ⟨Tm.av_width _, Tm.av_store _⟩) (tm_widths _) i1' (by simp only [hlen', List.length_cons, List.length_nil]; omega) (by simp only [hlen', List.length_cons, List.length_nil]; omega) (fun b' hb' => ?_)
        rw [show l0.map Tm.av ++ [(x.mapv R).av] = ((ts.take (i + 1)).map (Tm.mapv R)).map Tm.av by rw [htk]; simp] at hb' ⊢
        obtain ⟨g1, g2, g3⟩ := kidS_set hb'
        simp only [List.cons_append, List.nil_append] at g1 g3
        have hcc : cnt + 1 + sumL Tm.nodes ((ts.take (i + 1)).map (Tm.mapv R)) = c0 + (x.mapv R).nodes := by rw [htk, sumL_append, sumL, sumL, ← hc0]; omega
        simp -implicitDefEqProofs only [g3, accV_cells, accV_store, Nat.le_refl, g1, hw, zy4, hdeep, List.length_map, ev_at (av := Tm.av) eI_23 hx (Tm.av_width x), Tm.av_agg, Tm.av_width, Tm.av_store, Tm.av_junk, hbo, accV_agg, accV_width, evE, ↓evZ2, ↓evZ3, ↓Int.cast_ofNat_Int, implies_true, zy2, aFn, List.contains, List.elem, zq3, zy1, zq2, sub, zx3, zw2, zw3, zy3, gd, zq1, zw0, zq0, zx0, zx2, zx1, zy0, zw1, List.range', ↓reduceIte, reduceCtorEq, Nat.reduceEqDiff, Nat.reduceAdd, Nat.reduceLeDiff, Nat.reduceMul, Nat.reduceLT, Nat.reduceBEq, Int.reduceEq, tf_S5_70]
        rw [hcc]
        exact ⟨b', ⟨g2, hok.2, by rw [htk, List.all_append, i3]; simp [hok.1]⟩, zx7.mk (by simp -implicitDefEqProofs only [zy4, hdeep, List.length_map, ev_at (av := Tm.av) eI_23 hx (Tm.av_width x), Tm.av_agg, Tm.av_width, Tm.av_store, Tm.av_junk, hbo, accV_agg, accV_width, evE, ↓evZ2, ↓evZ3, ↓Int.cast_ofNat_Int, implies_true, zy2, aFn, List.contains, List.elem, zq3, zy1, zq2, sub, zx3, zw2, zw3, zy3, gd, zq1, zw0, zq0, zx0, zx2, zx1, zy0, zw1, List.range', ↓reduceIte, reduceCtorEq, Nat.reduceEqDiff, Nat.reduceAdd, Nat.reduceLeDiff, Nat.reduceMul, Nat.reduceLT, Nat.reduceBEq, Int.reduceEq, tf_S5_70])⟩
      · rw [if_neg hok] at hr
        subst hr
        obtain ⟨e2, i2'⟩ := kidS_beside (x := b8) (o := .cells [.int .i64 0, .int .i64 0, .str ⟨#[]⟩, .fslice []]) i1' (by rw [zy7.upd_ne _ _ hb8.symm, hW8]; simp) h108.symm
        have h8o := kidS_ne i1' (x := b8) (by rw [zy7.upd_ne _ _ hb8.symm, hW8]; simp) h108.symm
        rw [zy7.upd_ne _ _ hb8.symm, hW8] at h8o
        simp -implicitDefEqProofs only [zy4, hdeep, List.length_map, Tm.av_agg, Tm.av_width, Tm.av_store, Tm.av_junk, h8o, Tm.zero, Tm.av_mk, List.map_nil, evE, ↓evZ2, ↓evZ3, ↓Int.cast_ofNat_Int, implies_true, zy2, aFn, List.contains, List.elem, zq3, zy1, zq2, sub, zx3, zw2, zw3, zy3, gd, zq1, zw0, zq0, zx0, zx2, zx1, zy0, zw1, List.range', ↓reduceIte, reduceCtorEq, Nat.reduceEqDiff, Nat.reduceAdd, Nat.reduceLeDiff, Nat.reduceMul, Nat.reduceLT, Nat.reduceBEq, Int.reduceEq, tf_S5_70]
        rw [e2]
        refine hfail _ cnt' hcnt' (kidS_gone (hWd _ _ _) i2') ?_
        rw [Tm.nodes_mk, Tm.flat_succ, hnot, List.all_append, List.all_cons, sumL_append, sumL]
        rintro ⟨h3, h4⟩
        simp only [Bool.and_eq_true] at h3
        exact hok ⟨h3.2.1, by omega⟩
    · obtain ⟨i1, i2, i3⟩ := hinv
      rw [List.take_length] at i1 i2 i3 ⊢
      have hbo := kidS_c i1
      have hx8 : (W.upd cb (.cells [.int .i64 ((cnt + 1 + sumL Tm.nodes (ts.map (Tm.mapv R)) : Nat) : Int)])) b8 ≠ none := by rw [zy7.upd_ne _ _ hb8.symm, hW8]; simp
      have h8o := kidS_ne i1 (x := b8) hx8 h108.symm
      rw [zy7.upd_ne _ _ hb8.symm, hW8] at h8o
      simp -implicitDefEqProofs only [zy4, hdeep, List.length_map, hge, hbo, h8o, accV_store, evE, ↓evZ2, ↓evZ3, ↓Int.cast_ofNat_Int, implies_true, zy2, aFn, List.contains, List.elem, zq3, zy1, zq2, sub, zx3, zw2, zw3, zy3, gd, zq1, zw0, zq0, zx0, zx2, zx1, zy0, zw1, List.range', ↓reduceIte, reduceCtorEq, Nat.reduceEqDiff, Nat.reduceAdd, Nat.reduceLeDiff, Nat.reduceMul, Nat.reduceLT, Nat.reduceBEq, Int.reduceEq, tf_S5_70]
      obtain ⟨h5, h6⟩ := kidS_upd (o := .cells [.int .i64 k, .int .i64 n, .str s, accV 4 b ((ts.map (Tm.mapv R)).map Tm.av)]) i1 hx8 h108.symm
      have hsum : cnt + (Tm.mk k n s (ts.map (Tm.mapv R))).nodes = cnt + 1 + sumL Tm.nodes (ts.map (Tm.mapv R)) := by rw [Tm.nodes_mk]; omega
      refine ⟨b, _, _, h5, h6, tm_junk _, ⟨4, tm_widths _⟩, _, ?_, _, Nat.le_succ_of_le i2, rfl, ?_⟩
      · rw [zy7.upd_comm _ _ _ h108]
        exact hWd _ _ _
      · rw [if_pos ⟨by rw [Tm.flat_succ]; exact i3, by rw [hsum]; exact i2⟩, hsum]
        refine ⟨?_, rfl⟩
        simp only [fin_tup, fin_agg, List.map_cons, List.map_nil, fin_int, fin_str, fin_bool, accV_fin, Tm.av_mk]
termination_by D => D
decreasing_by exact hlt
end Go.AW


namespace Go.AW
open Go.Proofs.Try
set_option linter.unusedSimpArgs false
set_option maxRecDepth 100000
def optR (v : Tm) : AV := if v.flat 30 = true ∧ v.nodes ≤ 120 then .tup [v.av, .bool true] else .tup [Tm.zero.av, .bool false]
abbrev tf_S6_49 := And.intro tI_2 (And.intro zI_2 (And.intro underlying2 (And.intro tI_3 (And.intro zI_3 (And.intro underlying3 (And.intro tI_4 (And.intro zI_4 (And.intro underlying4 (And.intro tI_6 (And.intro zI_6 (And.intro underlying6 (And.intro tI_7 (And.intro zI_7 (And.intro fI_7_0 (And.intro fI_7_1 (And.intro fI_7_2 (And.intro fI_7_3 (And.intro bI_7 (And.intro tI_8 (And.intro zI_8 (And.intro fI_8_0 (And.intro fI_8_1 (And.intro fI_8_2 (And.intro fI_8_3 (And.intro bI_8 (And.intro tI_9 (And.intro zI_9 (And.intro underlying9 (And.intro tI_12 (And.intro zI_12 (And.intro underlying12 (And.intro tI_25 (And.intro zI_25 (And.intro fI_25_0 (And.intro fI_25_1 (And.intro fI_25_2 (And.intro fI_25_3 (And.intro bI_25 (And.intro tI_39 (And.intro zI_39 (And.intro tI_67 (And.intro zI_67 (And.intro tI_70 (And.intro zI_70 (And.intro fI_70_0 (And.intro fI_70_1 (And.intro bI_70 (And.intro tI_108 (And.intro zI_108 underlying108)))))))))))))))))))))))))))))))))))))))))))))))))
theorem c_resolve {σ : Sub} {R : Int → Tm} {rk : Int → Nat} {B : Nat} (G : Good σ R rk B) (hcv : AllS Cv σ) (hsm : AllS Sm σ) (c m : Nat) (q : AV) (t : Tm) (hct : Cv t) (hst : Sm t) (st : zy7) (hS : SubAt st c m q σ) :
    zq7 prog 49 [.ptr c 0, t.av] st (fun r st' => r = optR (t.mapv R) ∧ st' = st) := by
  refine zq7.done ?_
  refine zw6 [1000000, 6] func49 ntmps49 rfl rfl (by kernel_rfl) (by decide +kernel) (by show 2 ≤ _; decide +kernel) ?_
  intro _
  simp -implicitDefEqProofs only [zy4, evE, ↓evZ2, ↓evZ3, ↓Int.cast_ofNat_Int, implies_true, zy2, aFn, List.contains, List.elem, zq3, zy1, zq2, sub, zx3, zw2, zw3, zy3, gd, zq1, zw0, zq0, zx0, zx2, zx1, zy0, zw1, List.range', ↓reduceIte, reduceCtorEq, Nat.reduceEqDiff, Nat.reduceAdd, Nat.reduceLeDiff, Nat.reduceMul, Nat.reduceLT, Nat.reduceBEq, Int.reduceEq, tf_S6_49]
  intro b4 h4 b6 h6
  have hne : b6 ≠ b4 := by rintro rfl; rw [zy7.upd_same] at h6; cases h6
  have hn6 : st b6 = none := by rw [zy7.upd_ne st _ hne] at h6; exact h6
  have hS' : ∀ o o', SubAt ((st.upd b4 o).upd b6 o') c m q σ := fun o o' => (hS.upd h4).upd (by rw [zy7.upd_ne _ _ hne]; exact hn6)
  obtain ⟨h6c, h6m⟩ := hS.ne hn6
  have hc := c_resolving G hcv hsm c m b6 q ⟨h6c, h6m⟩ 30 t 0 _ (by omega) hct hst (by omega) (hS' (.cells [.int .i64 0, .int .i64 0, .str ⟨#[]⟩, .fslice []]) (.cells [.int .i64 0])) (zy7.upd_same _ _ _)
  rw [show (31 - ((30 : Nat) : Int)) = 1 from rfl] at hc
  refine hc.mono ?_
  rintro r s2 ⟨cnt', _, rfl, hr⟩
  unfold optR
  rw [Nat.zero_add] at hr
  split at hr
  · rename_i hok
    obtain ⟨rfl, _⟩ := hr
    rw [if_pos hok]
    simp -implicitDefEqProofs only [Tm.av_cells, Tm.av_store, Tm.av_agg, Tm.av_width, zy4, hne, hne.symm, evE, ↓evZ2, ↓evZ3, ↓Int.cast_ofNat_Int, implies_true, zy2, aFn, List.contains, List.elem, zq3, zy1, zq2, sub, zx3, zw2, zw3, zy3, gd, zq1, zw0, zq0, zx0, zx2, zx1, zy0, zw1, List.range', ↓reduceIte, reduceCtorEq, Nat.reduceEqDiff, Nat.reduceAdd, Nat.reduceLeDiff, Nat.reduceMul, Nat.reduceLT, Nat.reduceBEq, Int.reduceEq, tf_S6_49]
    exact ⟨by simp only [soft_agg, soft_tup, soft_int, soft_bool, soft_str, soft_slice, soft_fslice, soft_ptr, soft_pptr, soft_map, soft_mslice, Tm.soft, List.map_cons, List.map_nil], (((Drops.refl _).upd h4).upd hn6).upd h4⟩
  · rename_i hok
    subst hr
    rw [if_neg hok]
    simp -implicitDefEqProofs only [Tm.zero, Tm.av_mk, List.map_nil, zy4, hne, hne.symm, evE, ↓evZ2, ↓evZ3, ↓Int.cast_ofNat_Int, implies_true, zy2, aFn, List.contains, List.elem, zq3, zy1, zq2, sub, zx3, zw2, zw3, zy3, gd, zq1, zw0, zq0, zx0, zx2, zx1, zy0, zw1, List.range', ↓reduceIte, reduceCtorEq, Nat.reduceEqDiff, Nat.reduceAdd, Nat.reduceLeDiff, Nat.reduceMul, Nat.reduceLT, Nat.reduceBEq, Int.reduceEq, tf_S6_49]
    exact ⟨by simp only [soft_agg, soft_tup, soft_int, soft_bool, soft_str, soft_slice, soft_fslice, soft_ptr, soft_pptr, soft_map, soft_mslice, Tm.soft, List.map_cons, List.map_nil], (((Drops.refl _).upd h4).upd hn6).upd h4⟩
abbrev tf_S6_14 := And.intro tI_4 (And.intro zI_4 (And.intro underlying4 (And.intro tI_39 (And.intro zI_39 (And.intro tI_68 (And.intro zI_68 (And.intro underlying68 (And.intro tI_70 (And.intro zI_70 (And.intro fI_70_0 (And.intro fI_70_1 bI_70)))))))))))
theorem c_newStore (st : zy7) : zq7 prog 14 [] st (fun r st' => ∃ c m, r = .ptr c 0 ∧ Sto st' c m (.fslice []) Sub.none [] ∧ StepQ c m st (.fslice []) st' (.fslice []) ∧ st c = none ∧ st m = none) := by
  refine zw6 [1000000, 3] func14 ntmps14 rfl rfl (by kernel_rfl) (by decide +kernel) (by show 0 ≤ _; decide +kernel) ?_
  intro _
  simp -implicitDefEqProofs only [zy4, evE, ↓evZ2, ↓evZ3, ↓Int.cast_ofNat_Int, implies_true, zy2, aFn, List.contains, List.elem, zq3, zy1, zq2, sub, zx3, zw2, zw3, zy3, gd, zq1, zw0, zq0, zx0, zx2, zx1, zy0, zw1, List.range', ↓reduceIte, reduceCtorEq, Nat.reduceEqDiff, Nat.reduceAdd, Nat.reduceLeDiff, Nat.reduceMul, Nat.reduceLT, Nat.reduceBEq, Int.reduceEq, tf_S6_14]
  intro m hm c hc
  have hne : c ≠ m := by rintro rfl; rw [zy7.upd_same] at hc; cases hc
  have hnc : st c = none := by rw [zy7.upd_ne st _ hne] at hc; exact hc
  refine ⟨c, m, rfl, ⟨⟨zy7.upd_same _ _ _, by rw [zy7.upd_ne _ _ hne.symm, zy7.upd_same]; rfl⟩, .inl ⟨rfl, rfl⟩, by simp [tbk]⟩, ⟨fun x o h h1 h2 _ => by rw [zy7.upd_ne _ _ h1, zy7.upd_ne _ _ h2]; exact h, by simp [tbk]⟩, hnc, hm⟩
noncomputable def bindsTo (σ : Sub) (i : Nat) : List Bd := (List.range i).filterMap fun i : Nat => (σ (i : Int)).map fun u => ((i : Int), u.mapv (rs σ))
theorem bindsTo_26 (σ : Sub) : bindsTo σ 26 = bindsOf σ := rfl
theorem bindsTo_none {σ : Sub} {i : Nat} (h : σ (i : Int) = none) : bindsTo σ (i + 1) = bindsTo σ i := by
  unfold bindsTo
  rw [List.range_succ, List.filterMap_append]
  simp [h]
theorem bindsTo_some {σ : Sub} {i : Nat} {u : Tm} (h : σ (i : Int) = some u) : bindsTo σ (i + 1) = bindsTo σ i ++ [((i : Int), u.mapv (rs σ))] := by
  unfold bindsTo
  rw [List.range_succ, List.filterMap_append]
  simp [h]
theorem bindsTo_len (σ : Sub) (i : Nat) : (bindsTo σ i).length ≤ i := by
  have := List.length_filterMap_le (fun i : Nat => (σ (i : Int)).map fun u => ((i : Int), u.mapv (rs σ))) (List.range i)
  simpa [bindsTo] using this
abbrev fitB (b : Bd) : Bool := b.2.flat 30 && decide (b.2.nodes ≤ 120)
noncomputable def allAv (σ : Sub) : AV := if (bindsOf σ).all fitB = true then .tup [.slice ((bindsOf σ).map bdAv), .bool true] else .tup [.slice [], .bool false]
theorem bindsTo_bad {σ : Sub} {i : Nat} {u : Tm} (hi : i < 26) (h : σ (i : Int) = some u) (hb : ¬ ((u.mapv (rs σ)).flat 30 = true ∧ (u.mapv (rs σ)).nodes ≤ 120)) : ¬ (bindsOf σ).all fitB = true := by
  intro h2
  have : ((i : Int), u.mapv (rs σ)) ∈ bindsOf σ := by
    unfold bindsOf
    rw [List.mem_filterMap]
    exact ⟨i, by simp [hi], by simp [h]⟩
  have := List.all_eq_true.1 h2 _ this
  simp only [fitB, Bool.and_eq_true, decide_eq_true_eq] at this
  exact hb this
theorem SubAt.acc {st : zy7} {c m b : Nat} {q : AV} {σ : Sub} {l : List AV} (h : SubAt st c m q σ) (hb : l ≠ [] → st b = none) : SubAt (accS st b l) c m q σ := by
  cases l with
  | nil => exact h
  | cons x l => exact h.upd (hb (by simp))
abbrev tf_S6_16 := And.intro tI_2 (And.intro zI_2 (And.intro underlying2 (And.intro tI_3 (And.intro zI_3 (And.intro underlying3 (And.intro tI_4 (And.intro zI_4 (And.intro underlying4 (And.intro tI_5 (And.intro zI_5 (And.intro underlying5 (And.intro tI_6 (And.intro zI_6 (And.intro underlying6 (And.intro tI_7 (And.intro zI_7 (And.intro fI_7_0 (And.intro fI_7_1 (And.intro fI_7_2 (And.intro fI_7_3 (And.intro bI_7 (And.intro tI_8 (And.intro zI_8 (And.intro fI_8_0 (And.intro fI_8_1 (And.intro fI_8_2 (And.intro fI_8_3 (And.intro bI_8 (And.intro tI_9 (And.intro zI_9 (And.intro underlying9 (And.intro tI_10 (And.intro zI_10 (And.intro underlying10 (And.intro tI_11 (And.intro zI_11 (And.intro underlying11 (And.intro tI_12 (And.intro zI_12 (And.intro underlying12 (And.intro tI_24 (And.intro zI_24 (And.intro fI_24_0 (And.intro fI_24_1 (And.intro fI_24_2 (And.intro fI_24_3 (And.intro bI_24 (And.intro tI_25 (And.intro zI_25 (And.intro fI_25_0 (And.intro fI_25_1 (And.intro fI_25_2 (And.intro fI_25_3 (And.intro bI_25 (And.intro tI_27 (And.intro zI_27 (And.intro eI_27 (And.intro eB_27 (And.intro eZ_27 (And.intro underlying27 (And.intro tI_39 (And.intro zI_39 (And.intro tI_49 (And.intro zI_49 (And.intro fI_49_0 (And.intro fI_49_1 (And.intro bI_49 (And.intro tI_68 (And.intro zI_68 (And.intro underlying68 (And.intro tI_70 (And.intro zI_70 (And.intro fI_70_0 (And.intro fI_70_1 (And.intro bI_70 (And.intro tI_119 (And.intro zI_119 underlying119)))))))))))))))))))))))))))))))))))))))))))))))))))))))))))))))))))))))))))))
theorem c_all {σ : Sub} (hg : IsGood σ) (hcv : AllS Cv σ) (hsm : AllS Sm σ) (c m : Nat) (q : AV) (st : zy7) (hS : SubAt st c m q σ) :
    zq7 prog 16 [.ptr c 0] st (fun r st' => r = allAv σ ∧ st' = st) := by
  obtain ⟨rk, B, G⟩ := hg.rs
  refine zq7.done ?_
  refine zw6 [1000000] func16 ntmps16 rfl rfl (by kernel_rfl) (by decide +kernel) (by show 1 ≤ _; decide +kernel) ?_
  intro _
  have hl := fun (st' : zy7) (hm : st' m = some (AO.map (mapOf σ))) (n : Int) => look_sub (P := prog) (n := n) hm underlying68 underlying3 zV_25
  simp -implicitDefEqProofs only [evE, ↓evZ2, ↓evZ3, ↓Int.cast_ofNat_Int, implies_true, zy2, aFn, List.contains, List.elem, zq3, zy1, zq2, sub, zx3, zw2, zw3, zy3, gd, zq1, zw0, zq0, zx0, zx2, zx1, zy0, zw1, List.range', ↓reduceIte, reduceCtorEq, Nat.reduceEqDiff, Nat.reduceAdd, Nat.reduceLeDiff, Nat.reduceMul, Nat.reduceLT, Nat.reduceBEq, Int.reduceEq, tf_S6_16]
  refine zq6 (σ := Unit) [1000000] [0] (List.range 26) 5 4 (fun i _ => (bindsTo σ i).map bdAv) (fun i _ => (bindsTo σ i).all fitB = true) (fun i _ => [(2, .fslice []), (3, .bool false), (9, .int .i64 i)]) (fun _ _ => st) (fun i _ _ e he => by simp only [List.mem_map] at he; obtain ⟨t, _, rfl⟩ := he; exact ⟨bdAv_junk t, bdAv_width t⟩) (by decide +kernel) ⟨(), 0, rfl, fun h => absurd rfl h, zx7.mk (by simp -implicitDefEqProofs only [show bindsTo σ 0 = [] from rfl, List.map_nil, accV_nil, accS_nil, evE, ↓evZ2, ↓evZ3, ↓Int.cast_ofNat_Int, implies_true, zy2, aFn, List.contains, List.elem, zq3, zy1, zq2, sub, zx3, zw2, zw3, zy3, gd, zq1, zw0, zq0, zx0, zx2, zx1, zy0, zw1, List.range', ↓reduceIte, reduceCtorEq, Nat.reduceEqDiff, Nat.reduceAdd, Nat.reduceLeDiff, Nat.reduceMul, Nat.reduceLT, Nat.reduceBEq, Int.reduceEq, tf_S6_16])⟩ (fun i x s b hx hlt hlt' hdr hinv hb => ?_) (fun s b hge hinv => ?_)
  · rw [List.length_range] at hlt
    have hx' : x = i := by rw [List.getElem?_range hlt] at hx; exact (Option.some.inj hx).symm
    subst hx'
    have hlen' := bindsTo_len σ x
    have hw := wrap64 (n := (x : Int) + 1) (by omega) (by omega)
    have hlt2 : decide ((x : Int) < 26) = true := by simp; omega
    have hSA := hS.acc hb
    have hlA := hl _ hSA.map
    simp -implicitDefEqProofs only [hlt2, hSA.cells, hlA, evE, ↓evZ2, ↓evZ3, ↓Int.cast_ofNat_Int, implies_true, zy2, aFn, List.contains, List.elem, zq3, zy1, zq2, sub, zx3, zw2, zw3, zy3, gd, zq1, zw0, zq0, zx0, zx2, zx1, zy0, zw1, List.range', ↓reduceIte, reduceCtorEq, Nat.reduceEqDiff, Nat.reduceAdd, Nat.reduceLeDiff, Nat.reduceMul, Nat.reduceLT, Nat.reduceBEq, Int.reduceEq, tf_S6_16]
    cases h : σ (x : Int) with
    | none =>
      rw [← bindsTo_none h] at hinv hb ⊢
      simp -implicitDefEqProofs only [found, hw, evE, ↓evZ2, ↓evZ3, ↓Int.cast_ofNat_Int, implies_true, zy2, aFn, List.contains, List.elem, zq3, zy1, zq2, sub, zx3, zw2, zw3, zy3, gd, zq1, zw0, zq0, zx0, zx2, zx1, zy0, zw1, List.range', ↓reduceIte, reduceCtorEq, Nat.reduceEqDiff, Nat.reduceAdd, Nat.reduceLeDiff, Nat.reduceMul, Nat.reduceLT, Nat.reduceBEq, Int.reduceEq, tf_S6_16]
      exact ⟨(), b, hinv, hb, zx7.mk (by simp -implicitDefEqProofs only [hw, hw, evE, ↓evZ2, ↓evZ3, ↓Int.cast_ofNat_Int, implies_true, zy2, aFn, List.contains, List.elem, zq3, zy1, zq2, sub, zx3, zw2, zw3, zy3, gd, zq1, zw0, zq0, zx0, zx2, zx1, zy0, zw1, List.range', ↓reduceIte, reduceCtorEq, Nat.reduceEqDiff, Nat.reduceAdd, Nat.reduceLeDiff, Nat.reduceMul, Nat.reduceLT, Nat.reduceBEq, Int.reduceEq, tf_S6_16])⟩
    | some u =>
      have hct := hcv _ _ h
      have hst := hsm _ _ h
      simp -implicitDefEqProofs only [found, Tm.av_agg, Tm.av_width, Tm.av_junk, Tm.av_store, evE, ↓evZ2, ↓evZ3, ↓Int.cast_ofNat_Int, implies_true, zy2, aFn, List.contains, List.elem, zq3, zy1, zq2, sub, zx3, zw2, zw3, zy3, gd, zq1, zw0, zq0, zx0, zx2, zx1, zy0, zw1, List.range', ↓reduceIte, reduceCtorEq, Nat.reduceEqDiff, Nat.reduceAdd, Nat.reduceLeDiff, Nat.reduceMul, Nat.reduceLT, Nat.reduceBEq, Int.reduceEq, tf_S6_16]
      refine (c_resolve G hcv hsm c m q u hct hst _ hSA).to ?_
      unfold optR
      split
      · rename_i hok
        simp -implicitDefEqProofs only [Tm.av_agg, Tm.av_width, Tm.av_junk, Tm.av_store, evE, ↓evZ2, ↓evZ3, ↓Int.cast_ofNat_Int, implies_true, zy2, aFn, List.contains, List.elem, zq3, zy1, zq2, sub, zx3, zw2, zw3, zy3, gd, zq1, zw0, zq0, zx0, zx2, zx1, zy0, zw1, List.range', ↓reduceIte, reduceCtorEq, Nat.reduceEqDiff, Nat.reduceAdd, Nat.reduceLeDiff, Nat.reduceMul, Nat.reduceLT, Nat.reduceBEq, Int.reduceEq, tf_S6_16]
        rw [bdAv_mk]
        have hlen2 : ((bindsTo σ x).map bdAv).length ≤ x := by rw [List.length_map]; exact hlen'
        refine acc_append eI_27 eB_27 eZ_27 rfl rfl (by intro e he; simp only [List.mem_cons, List.not_mem_nil, or_false] at he; subst he; exact ⟨bdAv_width _, bdAv_store _⟩) (bd_widths _) hb (by simp only [List.length_cons, List.length_nil]; omega) (by simp only [List.length_cons, List.length_nil]; omega) (fun b' hb' => ?_)
        rw [show (bindsTo σ x).map bdAv ++ [bdAv ((x : Int), u.mapv (rs σ))] = (bindsTo σ (x + 1)).map bdAv by rw [bindsTo_some h]; simp] at hb' ⊢
        simp -implicitDefEqProofs only [Tm.av_agg, Tm.av_width, Tm.av_junk, Tm.av_store, evE, ↓evZ2, ↓evZ3, ↓Int.cast_ofNat_Int, implies_true, zy2, aFn, List.contains, List.elem, zq3, zy1, zq2, sub, zx3, zw2, zw3, zy3, gd, zq1, zw0, zq0, zx0, zx2, zx1, zy0, zw1, List.range', ↓reduceIte, reduceCtorEq, Nat.reduceEqDiff, Nat.reduceAdd, Nat.reduceLeDiff, Nat.reduceMul, Nat.reduceLT, Nat.reduceBEq, Int.reduceEq, tf_S6_16]
        refine ⟨(), b', ?_, hb', zx7.mk (by simp -implicitDefEqProofs only [hw, Tm.av_agg, Tm.av_width, Tm.av_junk, Tm.av_store, evE, ↓evZ2, ↓evZ3, ↓Int.cast_ofNat_Int, implies_true, zy2, aFn, List.contains, List.elem, zq3, zy1, zq2, sub, zx3, zw2, zw3, zy3, gd, zq1, zw0, zq0, zx0, zx2, zx1, zy0, zw1, List.range', ↓reduceIte, reduceCtorEq, Nat.reduceEqDiff, Nat.reduceAdd, Nat.reduceLeDiff, Nat.reduceMul, Nat.reduceLT, Nat.reduceBEq, Int.reduceEq, tf_S6_16])⟩
        rw [bindsTo_some h, List.all_append, hinv]
        simp [fitB, hok]
      · rename_i hok
        simp -implicitDefEqProofs only [Tm.av_agg, Tm.av_width, Tm.av_junk, Tm.av_store, evE, ↓evZ2, ↓evZ3, ↓Int.cast_ofNat_Int, implies_true, zy2, aFn, List.contains, List.elem, zq3, zy1, zq2, sub, zx3, zw2, zw3, zy3, gd, zq1, zw0, zq0, zx0, zx2, zx1, zy0, zw1, List.range', ↓reduceIte, reduceCtorEq, Nat.reduceEqDiff, Nat.reduceAdd, Nat.reduceLeDiff, Nat.reduceMul, Nat.reduceLT, Nat.reduceBEq, Int.reduceEq, tf_S6_16]
        refine ⟨?_, Drops.accS (Drops.refl _) hb⟩
        unfold allAv
        rw [if_neg (bindsTo_bad hlt h hok)]
        simp only [soft_agg, soft_tup, soft_int, soft_bool, soft_str, soft_slice, soft_fslice, soft_ptr, soft_pptr, soft_map, soft_mslice, Tm.soft, List.map_cons, List.map_nil]
  · have hge' : decide ((25 : Int) + 1 < 26) = false := rfl
    rw [List.length_range] at hinv
    simp -implicitDefEqProofs only [List.length_range, hge', fin_accV, finL, fin_slice, fin_fslice, fin_bool, fin_int, fin_ptr, hS.cells, evE, ↓evZ2, ↓evZ3, ↓Int.cast_ofNat_Int, implies_true, zy2, aFn, List.contains, List.elem, zq3, zy1, zq2, sub, zx3, zw2, zw3, zy3, gd, zq1, zw0, zq0, zx0, zx2, zx1, zy0, zw1, List.range', ↓reduceIte, reduceCtorEq, Nat.reduceEqDiff, Nat.reduceAdd, Nat.reduceLeDiff, Nat.reduceMul, Nat.reduceLT, Nat.reduceBEq, Int.reduceEq, tf_S6_16]
    rw [bindsTo_26] at hinv ⊢
    refine ⟨?_, Drops.refl _⟩
    unfold allAv
    rw [if_pos hinv]
    simp only [soft_agg, soft_tup, soft_int, soft_bool, soft_str, soft_slice, soft_fslice, soft_ptr, soft_pptr, soft_map, soft_mslice, Tm.soft, List.map_cons, List.map_nil]
theorem StepQ.drops {c m : Nat} {st st' : zy7} {q' : AV} (x : StepQ c m st (.fslice []) st' q') (hc : st c = none) (hm : st m = none) : Drops st' st := fun b => by
  have key : ∀ o, st b = some o → st' b = some o := fun o h => x.frame b o h (by rintro rfl; rw [hc] at h; cases h) (by rintro rfl; rw [hm] at h; cases h) (by simp [tbk])
  refine ⟨fun h => ?_, key⟩
  cases hb : st b with
  | none => rfl
  | some o => rw [key o hb] at h; cases h
end Go.AW


namespace Go.AW
open Go.Proofs.Try
set_option linter.unusedSimpArgs false
set_option maxRecDepth 100000
abbrev tf_Ts2_61 := And.intro tI_2 (And.intro zI_2 (And.intro underlying2 (And.intro tI_3 (And.intro zI_3 (And.intro underlying3 (And.intro tI_4 (And.intro zI_4 (And.intro underlying4 (And.intro tI_5 (And.intro zI_5 (And.intro underlying5 (And.intro tI_6 (And.intro zI_6 (And.intro underlying6 (And.intro tI_7 (And.intro zI_7 (And.intro fI_7_0 (And.intro fI_7_1 (And.intro fI_7_2 (And.intro fI_7_3 (And.intro bI_7 (And.intro tI_8 (And.intro zI_8 (And.intro fI_8_0 (And.intro fI_8_1 (And.intro fI_8_2 (And.intro fI_8_3 (And.intro bI_8 (And.intro tI_9 (And.intro zI_9 (And.intro underlying9 (And.intro tI_10 (And.intro zI_10 (And.intro underlying10 (And.intro tI_11 (And.intro zI_11 (And.intro underlying11 (And.intro tI_12 (And.intro zI_12 (And.intro underlying12 (And.intro tI_13 (And.intro zI_13 (And.intro fI_13_0 (And.intro fI_13_1 (And.intro bI_13 (And.intro tI_15 (And.intro zI_15 (And.intro tI_16 (And.intro zI_16 (And.intro tI_17 (And.intro zI_17 (And.intro tI_23 (And.intro zI_23 (And.intro eI_23 (And.intro eB_23 (And.intro eZ_23 (And.intro underlying23 (And.intro tI_25 (And.intro zI_25 (And.intro fI_25_0 (And.intro fI_25_1 (And.intro fI_25_2 (And.intro fI_25_3 (And.intro bI_25 (And.intro tI_27 (And.intro zI_27 (And.intro eI_27 (And.intro eB_27 (And.intro eZ_27 underlying27)))))))))))))))))))))))))))))))))))))))))))))))))))))))))))))))))))))
theorem c_EqualFuncTerm (l l' : List Tm) (g : FuncId) (st : zy7) (hc : ∀ x ∈ l, ∀ (y : Tm) (st : zy7), zq7 prog g [Tm.av x, Tm.av y] st (fun r st' => r = .bool (Tm.same x y) ∧ st' = st)) :
    zq7 prog 61 [.slice (l.map Tm.av), .slice (l'.map Tm.av), .func g []] st (fun r st' => r = .bool (eqL Tm.same l l') ∧ st' = st) := by
  refine zw6 [1000000] func61 ntmps61 rfl rfl (by kernel_rfl) (by decide +kernel) (by show 3 ≤ _; decide +kernel) ?_
  simp only [fitsL, AV.fits, and_true, List.length_map]
  intro ⟨⟨hl, _⟩, ⟨hl', _⟩⟩
  simp -implicitDefEqProofs only [List.length_map, Tm.av_agg, Tm.av_width, Tm.av_store, Tm.av_junk, evE, ↓evZ2, ↓evZ3, ↓Int.cast_ofNat_Int, implies_true, zy2, aFn, List.contains, List.elem, zq3, zy1, zq2, sub, zx3, zw2, zw3, zy3, gd, zq1, zw0, zq0, zx0, zx2, zx1, zy0, zw1, List.range', ↓reduceIte, reduceCtorEq, Nat.reduceEqDiff, Nat.reduceAdd, Nat.reduceLeDiff, Nat.reduceMul, Nat.reduceLT, Nat.reduceBEq, Int.reduceEq, tf_Ts2_61]
  refine ⟨fun h4 => ?_, fun h4 => ?_⟩
  · simp -implicitDefEqProofs only [List.length_map, Tm.av_agg, Tm.av_width, Tm.av_store, Tm.av_junk, evE, ↓evZ2, ↓evZ3, ↓Int.cast_ofNat_Int, implies_true, zy2, aFn, List.contains, List.elem, zq3, zy1, zq2, sub, zx3, zw2, zw3, zy3, gd, zq1, zw0, zq0, zx0, zx2, zx1, zy0, zw1, List.range', ↓reduceIte, reduceCtorEq, Nat.reduceEqDiff, Nat.reduceAdd, Nat.reduceLeDiff, Nat.reduceMul, Nat.reduceLT, Nat.reduceBEq, Int.reduceEq, tf_Ts2_61]
    simp only [Bool.not_eq_true', decide_eq_false_iff_not] at h4
    rw [eqL_len _ (show l.length ≠ l'.length by omega)]
  simp only [Bool.not_eq_false', decide_eq_true_eq] at h4
  have h4' : l.length = l'.length := by omega
  simp -implicitDefEqProofs only [List.length_map, Tm.av_agg, Tm.av_width, Tm.av_store, Tm.av_junk, evE, ↓evZ2, ↓evZ3, ↓Int.cast_ofNat_Int, implies_true, zy2, aFn, List.contains, List.elem, zq3, zy1, zq2, sub, zx3, zw2, zw3, zy3, gd, zq1, zw0, zq0, zx0, zx2, zx1, zy0, zw1, List.range', ↓reduceIte, reduceCtorEq, Nat.reduceEqDiff, Nat.reduceAdd, Nat.reduceLeDiff, Nat.reduceMul, Nat.reduceLT, Nat.reduceBEq, Int.reduceEq, tf_Ts2_61]
  refine zy5 (σ := Unit) [1000000] [1, 2, 15, 16] l (fun i _ => ∀ (j : Nat) (x y : Tm), j < i → l[j]? = some x → l'[j]? = some y → Tm.same x y = true) (fun i _ => [(17, .int .i64 i)]) (fun _ _ => st) (by decide +kernel) ⟨(), by intro j x y h; omega, zx7.mk (by simp -implicitDefEqProofs only [List.length_map, Tm.av_agg, Tm.av_width, Tm.av_store, Tm.av_junk, evE, ↓evZ2, ↓evZ3, ↓Int.cast_ofNat_Int, implies_true, zy2, aFn, List.contains, List.elem, zq3, zy1, zq2, sub, zx3, zw2, zw3, zy3, gd, zq1, zw0, zq0, zx0, zx2, zx1, zy0, zw1, List.range', ↓reduceIte, reduceCtorEq, Nat.reduceEqDiff, Nat.reduceAdd, Nat.reduceLeDiff, Nat.reduceMul, Nat.reduceLT, Nat.reduceBEq, Int.reduceEq, tf_Ts2_61])⟩ (fun i x _ hx hlt hlt' hdr hall => ?_) (fun _ hge hall => ?_)
  case refine_2 =>
    simp -implicitDefEqProofs only [hge, List.length_map, Tm.av_agg, Tm.av_width, Tm.av_store, Tm.av_junk, evE, ↓evZ2, ↓evZ3, ↓Int.cast_ofNat_Int, implies_true, zy2, aFn, List.contains, List.elem, zq3, zy1, zq2, sub, zx3, zw2, zw3, zy3, gd, zq1, zw0, zq0, zx0, zx2, zx1, zy0, zw1, List.range', ↓reduceIte, reduceCtorEq, Nat.reduceEqDiff, Nat.reduceAdd, Nat.reduceLeDiff, Nat.reduceMul, Nat.reduceLT, Nat.reduceBEq, Int.reduceEq, tf_Ts2_61]
    rw [eqL_all _ h4' (fun j x y h6 h7 => hall j x y (by have := (List.getElem?_eq_some_iff.1 h6).1; omega) h6 h7)]
  obtain ⟨y, hy⟩ : ∃ y, l'[i]? = some y := ⟨_, List.getElem?_eq_getElem (h4' ▸ hlt)⟩
  have hw := wrap64 (n := (i : Int) + 1) (by omega) (by omega)
  simp -implicitDefEqProofs only [hlt', List.length_map, Tm.av_agg, Tm.av_width, Tm.av_store, Tm.av_junk, ev_at (av := Tm.av) eI_23 hx (Tm.av_width x), ev_at (av := Tm.av) eI_23 hy (Tm.av_width y), evE, ↓evZ2, ↓evZ3, ↓Int.cast_ofNat_Int, implies_true, zy2, aFn, List.contains, List.elem, zq3, zy1, zq2, sub, zx3, zw2, zw3, zy3, gd, zq1, zw0, zq0, zx0, zx2, zx1, zy0, zw1, List.range', ↓reduceIte, reduceCtorEq, Nat.reduceEqDiff, Nat.reduceAdd, Nat.reduceLeDiff, Nat.reduceMul, Nat.reduceLT, Nat.reduceBEq, Int.reduceEq, tf_Ts2_61]
  refine (hc x (List.mem_of_getElem? hx) y _).to ?_
  simp -implicitDefEqProofs only [List.length_map, Tm.av_agg, Tm.av_width, Tm.av_store, Tm.av_junk, ev_at (av := Tm.av) eI_23 hx (Tm.av_width x), ev_at (av := Tm.av) eI_23 hy (Tm.av_width y), evE, ↓evZ2, ↓evZ3, ↓Int.cast_ofNat_Int, implies_true, zy2, aFn, List.contains, List.elem, zq3, zy1, zq2, sub, zx3, zw2, zw3, zy3, gd, zq1, zw0, zq0, zx0, zx2, zx1, zy0, zw1, List.range', ↓reduceIte, reduceCtorEq, Nat.reduceEqDiff, Nat.reduceAdd, Nat.reduceLeDiff, Nat.reduceMul, Nat.reduceLT, Nat.reduceBEq, Int.reduceEq, tf_Ts2_61]
  refine ⟨fun h6 => ?_, fun h6 => ?_⟩
  · simp -implicitDefEqProofs only [List.length_map, Tm.av_agg, Tm.av_width, Tm.av_store, Tm.av_junk, ev_at (av := Tm.av) eI_23 hx (Tm.av_width x), ev_at (av := Tm.av) eI_23 hy (Tm.av_width y), evE, ↓evZ2, ↓evZ3, ↓Int.cast_ofNat_Int, implies_true, zy2, aFn, List.contains, List.elem, zq3, zy1, zq2, sub, zx3, zw2, zw3, zy3, gd, zq1, zw0, zq0, zx0, zx2, zx1, zy0, zw1, List.range', ↓reduceIte, reduceCtorEq, Nat.reduceEqDiff, Nat.reduceAdd, Nat.reduceLeDiff, Nat.reduceMul, Nat.reduceLT, Nat.reduceBEq, Int.reduceEq, tf_Ts2_61]
    have h7 : Tm.same x y = false := by simpa using h6
    rw [eqL_at _ i x y hx hy h7]
  have h7 : Tm.same x y = true := by simpa using h6
  simp -implicitDefEqProofs only [List.length_map, Tm.av_agg, Tm.av_width, Tm.av_store, Tm.av_junk, ev_at (av := Tm.av) eI_23 hx (Tm.av_width x), ev_at (av := Tm.av) eI_23 hy (Tm.av_width y), evE, ↓evZ2, ↓evZ3, ↓Int.cast_ofNat_Int, implies_true, zy2, aFn, List.contains, List.elem, zq3, zy1, zq2, sub, zx3, zw2, zw3, zy3, gd, zq1, zw0, zq0, zx0, zx2, zx1, zy0, zw1, List.range', ↓reduceIte, reduceCtorEq, Nat.reduceEqDiff, Nat.reduceAdd, Nat.reduceLeDiff, Nat.reduceMul, Nat.reduceLT, Nat.reduceBEq, Int.reduceEq, tf_Ts2_61]
  refine ⟨(), fun j u v hj hu hv => ?_, zx7.mk (by simp -implicitDefEqProofs only [hw, List.length_map, Tm.av_agg, Tm.av_width, Tm.av_store, Tm.av_junk, ev_at (av := Tm.av) eI_23 hx (Tm.av_width x), ev_at (av := Tm.av) eI_23 hy (Tm.av_width y), evE, ↓evZ2, ↓evZ3, ↓Int.cast_ofNat_Int, implies_true, zy2, aFn, List.contains, List.elem, zq3, zy1, zq2, sub, zx3, zw2, zw3, zy3, gd, zq1, zw0, zq0, zx0, zx2, zx1, zy0, zw1, List.range', ↓reduceIte, reduceCtorEq, Nat.reduceEqDiff, Nat.reduceAdd, Nat.reduceLeDiff, Nat.reduceMul, Nat.reduceLT, Nat.reduceBEq, Int.reduceEq, tf_Ts2_61])⟩
  rcases Nat.lt_or_ge j i with h8 | h8
  · exact hall j u v h8 hu hv
  · obtain rfl : j = i := by omega
    rw [hx] at hu; rw [hy] at hv; cases hu; cases hv; exact h7
abbrev tf_Ts2_21 := And.intro tI_2 (And.intro zI_2 (And.intro underlying2 (And.intro tI_3 (And.intro zI_3 (And.intro underlying3 (And.intro tI_4 (And.intro zI_4 (And.intro underlying4 (And.intro tI_5 (And.intro zI_5 (And.intro underlying5 (And.intro tI_9 (And.intro zI_9 (And.intro underlying9 (And.intro tI_12 (And.intro zI_12 (And.intro underlying12 (And.intro tI_19 (And.intro zI_19 (And.intro fI_19_0 (And.intro bI_19 (And.intro tI_21 (And.intro zI_21 (And.intro underlying21 (And.intro tI_23 (And.intro zI_23 (And.intro eI_23 (And.intro eB_23 (And.intro eZ_23 (And.intro underlying23 (And.intro tI_25 (And.intro zI_25 (And.intro fI_25_0 (And.intro fI_25_1 (And.intro fI_25_2 (And.intro fI_25_3 (And.intro bI_25 (And.intro tI_61 (And.intro zI_61 (And.intro eI_61 (And.intro eB_61 (And.intro eZ_61 underlying61))))))))))))))))))))))))))))))))))))))))))
theorem c_impl_TermSame : ∀ (a b : Tm) (st : zy7), zq7 prog 21 [a.av, b.av] st (fun r st' => r = .bool (a.same b) ∧ st' = st)
  | .mk k n s ts, .mk k' n' s' ts', st => by
    have hc := c_EqualFuncTerm ts ts' 21 st fun x hx y st => c_impl_TermSame x y st
    refine zw6 [] func21 ntmps21 rfl rfl (by kernel_rfl) (by decide +kernel) (by show 2 ≤ _; decide +kernel) ?_
    intro _
    simp only [Tm.av_mk, Tm.same_mk]
    simp -implicitDefEqProofs only [evE, ↓evZ2, ↓evZ3, ↓Int.cast_ofNat_Int, implies_true, zy2, aFn, List.contains, List.elem, zq3, zy1, zq2, sub, zx3, zw2, zw3, zy3, gd, zq1, zw0, zq0, zx0, zx2, zx1, zy0, zw1, List.range', ↓reduceIte, reduceCtorEq, Nat.reduceEqDiff, Nat.reduceAdd, Nat.reduceLeDiff, Nat.reduceMul, Nat.reduceLT, Nat.reduceBEq, Int.reduceEq, tf_Ts2_21]
    refine zx4 (fun h1 => ?_) (fun h1 => ?_)
    case refine_2 =>
      simp -implicitDefEqProofs only [h1, evE, ↓evZ2, ↓evZ3, ↓Int.cast_ofNat_Int, implies_true, zy2, aFn, List.contains, List.elem, zq3, zy1, zq2, sub, zx3, zw2, zw3, zy3, gd, zq1, zw0, zq0, zx0, zx2, zx1, zy0, zw1, List.range', ↓reduceIte, reduceCtorEq, Nat.reduceEqDiff, Nat.reduceAdd, Nat.reduceLeDiff, Nat.reduceMul, Nat.reduceLT, Nat.reduceBEq, Int.reduceEq, tf_Ts2_21]
      simp at h1
      simp [h1]
    simp -implicitDefEqProofs only [h1, evE, ↓evZ2, ↓evZ3, ↓Int.cast_ofNat_Int, implies_true, zy2, aFn, List.contains, List.elem, zq3, zy1, zq2, sub, zx3, zw2, zw3, zy3, gd, zq1, zw0, zq0, zx0, zx2, zx1, zy0, zw1, List.range', ↓reduceIte, reduceCtorEq, Nat.reduceEqDiff, Nat.reduceAdd, Nat.reduceLeDiff, Nat.reduceMul, Nat.reduceLT, Nat.reduceBEq, Int.reduceEq, tf_Ts2_21]
    refine zx4 (fun h2 => ?_) (fun h2 => ?_)
    case refine_2 =>
      simp -implicitDefEqProofs only [h1, h2, evE, ↓evZ2, ↓evZ3, ↓Int.cast_ofNat_Int, implies_true, zy2, aFn, List.contains, List.elem, zq3, zy1, zq2, sub, zx3, zw2, zw3, zy3, gd, zq1, zw0, zq0, zx0, zx2, zx1, zy0, zw1, List.range', ↓reduceIte, reduceCtorEq, Nat.reduceEqDiff, Nat.reduceAdd, Nat.reduceLeDiff, Nat.reduceMul, Nat.reduceLT, Nat.reduceBEq, Int.reduceEq, tf_Ts2_21]
      simp at h2
      simp [h2]
    simp -implicitDefEqProofs only [h1, h2, evE, ↓evZ2, ↓evZ3, ↓Int.cast_ofNat_Int, implies_true, zy2, aFn, List.contains, List.elem, zq3, zy1, zq2, sub, zx3, zw2, zw3, zy3, gd, zq1, zw0, zq0, zx0, zx2, zx1, zy0, zw1, List.range', ↓reduceIte, reduceCtorEq, Nat.reduceEqDiff, Nat.reduceAdd, Nat.reduceLeDiff, Nat.reduceMul, Nat.reduceLT, Nat.reduceBEq, Int.reduceEq, tf_Ts2_21]
    refine zx4 (fun h3 => ?_) (fun h3 => ?_)
    case refine_2 =>
      simp -implicitDefEqProofs only [h1, h2, h3, evE, ↓evZ2, ↓evZ3, ↓Int.cast_ofNat_Int, implies_true, zy2, aFn, List.contains, List.elem, zq3, zy1, zq2, sub, zx3, zw2, zw3, zy3, gd, zq1, zw0, zq0, zx0, zx2, zx1, zy0, zw1, List.range', ↓reduceIte, reduceCtorEq, Nat.reduceEqDiff, Nat.reduceAdd, Nat.reduceLeDiff, Nat.reduceMul, Nat.reduceLT, Nat.reduceBEq, Int.reduceEq, tf_Ts2_21]
      simp at h3
      simp [h3]
    simp -implicitDefEqProofs only [h1, h2, h3, evE, ↓evZ2, ↓evZ3, ↓Int.cast_ofNat_Int, implies_true, zy2, aFn, List.contains, List.elem, zq3, zy1, zq2, sub, zx3, zw2, zw3, zy3, gd, zq1, zw0, zq0, zx0, zx2, zx1, zy0, zw1, List.range', ↓reduceIte, reduceCtorEq, Nat.reduceEqDiff, Nat.reduceAdd, Nat.reduceLeDiff, Nat.reduceMul, Nat.reduceLT, Nat.reduceBEq, Int.reduceEq, tf_Ts2_21]
    refine hc.to ?_
    simp -implicitDefEqProofs only [h1, h2, h3, evE, ↓evZ2, ↓evZ3, ↓Int.cast_ofNat_Int, implies_true, zy2, aFn, List.contains, List.elem, zq3, zy1, zq2, sub, zx3, zw2, zw3, zy3, gd, zq1, zw0, zq0, zx0, zx2, zx1, zy0, zw1, List.range', ↓reduceIte, reduceCtorEq, Nat.reduceEqDiff, Nat.reduceAdd, Nat.reduceLeDiff, Nat.reduceMul, Nat.reduceLT, Nat.reduceBEq, Int.reduceEq, tf_Ts2_21]
termination_by a => SizeOf.sizeOf a
decreasing_by have := List.sizeOf_lt_of_mem hx; simp only [Tm.mk.sizeOf_spec]; omega
abbrev tf_Ts2_54 := And.intro tI_2 (And.intro zI_2 (And.intro underlying2 (And.intro tI_3 (And.intro zI_3 (And.intro underlying3 (And.intro tI_4 (And.intro zI_4 (And.intro underlying4 (And.intro tI_5 (And.intro zI_5 (And.intro underlying5 (And.intro tI_6 (And.intro zI_6 (And.intro underlying6 (And.intro tI_7 (And.intro zI_7 (And.intro fI_7_0 (And.intro fI_7_1 (And.intro fI_7_2 (And.intro fI_7_3 (And.intro bI_7 (And.intro tI_8 (And.intro zI_8 (And.intro fI_8_0 (And.intro fI_8_1 (And.intro fI_8_2 (And.intro fI_8_3 (And.intro bI_8 (And.intro tI_9 (And.intro zI_9 (And.intro underlying9 (And.intro tI_12 (And.intro zI_12 (And.intro underlying12 (And.intro tI_19 (And.intro zI_19 (And.intro fI_19_0 (And.intro bI_19 (And.intro tI_23 (And.intro zI_23 (And.intro eI_23 (And.intro eB_23 (And.intro eZ_23 (And.intro underlying23 (And.intro tI_25 (And.intro zI_25 (And.intro fI_25_0 (And.intro fI_25_1 (And.intro fI_25_2 (And.intro fI_25_3 (And.intro bI_25 (And.intro tI_27 (And.intro zI_27 (And.intro eI_27 (And.intro eB_27 (And.intro eZ_27 (And.intro underlying27 (And.intro tI_34 zI_34))))))))))))))))))))))))))))))))))))))))))))))))))))))))))
theorem c_spec_TermSame : ∀ (a b : Tm) (st : zy7), zq7 prog 54 [a.av, b.av] st (fun r st' => r = .bool (a.same b) ∧ st' = st)
  | .mk k n s ts, .mk k' n' s' ts', st => by
    have hc := fun (x : Tm) (hx : x ∈ ts) y st => c_spec_TermSame x y st
    refine zw6 [] func54 ntmps54 rfl rfl (by kernel_rfl) (by decide +kernel) (by show 2 ≤ _; decide +kernel) ?_
    simp only [Tm.av_mk, fitsL, AV.fits, and_true, List.length_map, Tm.same_mk]
    intro ⟨⟨_, _, _, hl, _⟩, ⟨_, _, _, hl', _⟩⟩
    simp -implicitDefEqProofs only [evE, ↓evZ2, ↓evZ3, ↓Int.cast_ofNat_Int, implies_true, zy2, aFn, List.contains, List.elem, zq3, zy1, zq2, sub, zx3, zw2, zw3, zy3, gd, zq1, zw0, zq0, zx0, zx2, zx1, zy0, zw1, List.range', ↓reduceIte, reduceCtorEq, Nat.reduceEqDiff, Nat.reduceAdd, Nat.reduceLeDiff, Nat.reduceMul, Nat.reduceLT, Nat.reduceBEq, Int.reduceEq, tf_Ts2_54]
    refine zx4 (fun h1 => ?_) (fun h1 => ?_)
    case refine_2 =>
      simp -implicitDefEqProofs only [h1, evE, ↓evZ2, ↓evZ3, ↓Int.cast_ofNat_Int, implies_true, zy2, aFn, List.contains, List.elem, zq3, zy1, zq2, sub, zx3, zw2, zw3, zy3, gd, zq1, zw0, zq0, zx0, zx2, zx1, zy0, zw1, List.range', ↓reduceIte, reduceCtorEq, Nat.reduceEqDiff, Nat.reduceAdd, Nat.reduceLeDiff, Nat.reduceMul, Nat.reduceLT, Nat.reduceBEq, Int.reduceEq, tf_Ts2_54]
      simp at h1
      simp [h1]
    simp -implicitDefEqProofs only [h1, evE, ↓evZ2, ↓evZ3, ↓Int.cast_ofNat_Int, implies_true, zy2, aFn, List.contains, List.elem, zq3, zy1, zq2, sub, zx3, zw2, zw3, zy3, gd, zq1, zw0, zq0, zx0, zx2, zx1, zy0, zw1, List.range', ↓reduceIte, reduceCtorEq, Nat.reduceEqDiff, Nat.reduceAdd, Nat.reduceLeDiff, Nat.reduceMul, Nat.reduceLT, Nat.reduceBEq, Int.reduceEq, tf_Ts2_54]
    refine zx4 (fun h2 => ?_) (fun h2 => ?_)
    case refine_2 =>
      simp -implicitDefEqProofs only [h1, h2, evE, ↓evZ2, ↓evZ3, ↓Int.cast_ofNat_Int, implies_true, zy2, aFn, List.contains, List.elem, zq3, zy1, zq2, sub, zx3, zw2, zw3, zy3, gd, zq1, zw0, zq0, zx0, zx2, zx1, zy0, zw1, List.range', ↓reduceIte, reduceCtorEq, Nat.reduceEqDiff, Nat.reduceAdd, Nat.reduceLeDiff, Nat.reduceMul, Nat.reduceLT, Nat.reduceBEq, Int.reduceEq, tf_Ts2_54]
      simp at h2
      simp [h2]
    simp -implicitDefEqProofs only [h1, h2, evE, ↓evZ2, ↓evZ3, ↓Int.cast_ofNat_Int, implies_true, zy2, aFn, List.contains, List.elem, zq3, zy1, zq2, sub, zx3, zw2, zw3, zy3, gd, zq1, zw0, zq0, zx0, zx2, zx1, zy0, zw1, List.range', ↓reduceIte, reduceCtorEq, Nat.reduceEqDiff, Nat.reduceAdd, Nat.reduceLeDiff, Nat.reduceMul, Nat.reduceLT, Nat.reduceBEq, Int.reduceEq, tf_Ts2_54]
    refine zx4 (fun h3 => ?_) (fun h3 => ?_)
    case refine_2 =>
      simp -implicitDefEqProofs only [h1, h2, h3, evE, ↓evZ2, ↓evZ3, ↓Int.cast_ofNat_Int, implies_true, zy2, aFn, List.contains, List.elem, zq3, zy1, zq2, sub, zx3, zw2, zw3, zy3, gd, zq1, zw0, zq0, zx0, zx2, zx1, zy0, zw1, List.range', ↓reduceIte, reduceCtorEq, Nat.reduceEqDiff, Nat.reduceAdd, Nat.reduceLeDiff, Nat.reduceMul, Nat.reduceLT, Nat.reduceBEq, Int.reduceEq, tf_Ts2_54]
      simp at h3
      simp [h3]
    simp -implicitDefEqProofs only [h1, h2, h3, List.length_map, evE, ↓evZ2, ↓evZ3, ↓Int.cast_ofNat_Int, implies_true, zy2, aFn, List.contains, List.elem, zq3, zy1, zq2, sub, zx3, zw2, zw3, zy3, gd, zq1, zw0, zq0, zx0, zx2, zx1, zy0, zw1, List.range', ↓reduceIte, reduceCtorEq, Nat.reduceEqDiff, Nat.reduceAdd, Nat.reduceLeDiff, Nat.reduceMul, Nat.reduceLT, Nat.reduceBEq, Int.reduceEq, tf_Ts2_54]
    refine ⟨fun h4 => ?_, fun h4 => ?_⟩
    · simp -implicitDefEqProofs only [evE, ↓evZ2, ↓evZ3, ↓Int.cast_ofNat_Int, implies_true, zy2, aFn, List.contains, List.elem, zq3, zy1, zq2, sub, zx3, zw2, zw3, zy3, gd, zq1, zw0, zq0, zx0, zx2, zx1, zy0, zw1, List.range', ↓reduceIte, reduceCtorEq, Nat.reduceEqDiff, Nat.reduceAdd, Nat.reduceLeDiff, Nat.reduceMul, Nat.reduceLT, Nat.reduceBEq, Int.reduceEq, tf_Ts2_54]
      simp only [Bool.not_eq_true', decide_eq_false_iff_not] at h4
      rw [eqL_len _ (show ts.length ≠ ts'.length by omega)]
      simp
    simp -implicitDefEqProofs only [evE, ↓evZ2, ↓evZ3, ↓Int.cast_ofNat_Int, implies_true, zy2, aFn, List.contains, List.elem, zq3, zy1, zq2, sub, zx3, zw2, zw3, zy3, gd, zq1, zw0, zq0, zx0, zx2, zx1, zy0, zw1, List.range', ↓reduceIte, reduceCtorEq, Nat.reduceEqDiff, Nat.reduceAdd, Nat.reduceLeDiff, Nat.reduceMul, Nat.reduceLT, Nat.reduceBEq, Int.reduceEq, tf_Ts2_54]
    simp only [Bool.not_eq_false', decide_eq_true_eq] at h1 h2 h3 h4
    have h4' : ts.length = ts'.length := by omega
    subst h1 h2 h3
    simp only [decide_true, Bool.true_and]
    refine zy6 (α := Nat) [] (fun i => i ≤ ts.length ∧ ∀ (j : Nat) (x y : Tm), j < i → ts[j]? = some x → ts'[j]? = some y → Tm.same x y = true)
      (fun i => [(2, .pptr (.agg [.int .i64 k, .int .i64 n, .str s, .slice (ts.map Tm.av)])), (3, .pptr (.agg [.int .i64 k, .int .i64 n, .str s, .slice (ts'.map Tm.av)])), (5, .int .i64 i)]) (fun _ => st) (fun i => ts.length - i) (by decide +kernel)
      ⟨0, ⟨by omega, by intro j x y h; omega⟩, zx7.mk (by simp -implicitDefEqProofs only [evE, ↓evZ2, ↓evZ3, ↓Int.cast_ofNat_Int, implies_true, zy2, aFn, List.contains, List.elem, zq3, zy1, zq2, sub, zx3, zw2, zw3, zy3, gd, zq1, zw0, zq0, zx0, zx2, zx1, zy0, zw1, List.range', ↓reduceIte, reduceCtorEq, Nat.reduceEqDiff, Nat.reduceAdd, Nat.reduceLeDiff, Nat.reduceMul, Nat.reduceLT, Nat.reduceBEq, Int.reduceEq, tf_Ts2_54])⟩ ?_
    intro i ⟨hi, hall⟩
    simp -implicitDefEqProofs only [List.length_map, evE, ↓evZ2, ↓evZ3, ↓Int.cast_ofNat_Int, implies_true, zy2, aFn, List.contains, List.elem, zq3, zy1, zq2, sub, zx3, zw2, zw3, zy3, gd, zq1, zw0, zq0, zx0, zx2, zx1, zy0, zw1, List.range', ↓reduceIte, reduceCtorEq, Nat.reduceEqDiff, Nat.reduceAdd, Nat.reduceLeDiff, Nat.reduceMul, Nat.reduceLT, Nat.reduceBEq, Int.reduceEq, tf_Ts2_54]
    refine ⟨fun h5 => ?_, fun h5 => ?_⟩
    case refine_2 =>
      simp -implicitDefEqProofs only [evE, ↓evZ2, ↓evZ3, ↓Int.cast_ofNat_Int, implies_true, zy2, aFn, List.contains, List.elem, zq3, zy1, zq2, sub, zx3, zw2, zw3, zy3, gd, zq1, zw0, zq0, zx0, zx2, zx1, zy0, zw1, List.range', ↓reduceIte, reduceCtorEq, Nat.reduceEqDiff, Nat.reduceAdd, Nat.reduceLeDiff, Nat.reduceMul, Nat.reduceLT, Nat.reduceBEq, Int.reduceEq, tf_Ts2_54]
      simp only [decide_eq_false_iff_not, Int.ofNat_lt] at h5
      rw [eqL_all _ h4' (fun j x y h6 h7 => hall j x y (by have := (List.getElem?_eq_some_iff.1 h6).1; omega) h6 h7)]
    simp only [decide_eq_true_eq, Int.ofNat_lt] at h5
    obtain ⟨x, hx⟩ : ∃ x, ts[i]? = some x := ⟨_, List.getElem?_eq_getElem h5⟩
    obtain ⟨y, hy⟩ : ∃ y, ts'[i]? = some y := ⟨_, List.getElem?_eq_getElem (h4' ▸ h5)⟩
    simp -implicitDefEqProofs only [evE, ↓evZ2, ↓evZ3, ↓Int.cast_ofNat_Int, implies_true, zy2, aFn, List.contains, List.elem, zq3, zy1, zq2, sub, zx3, zw2, zw3, zy3, gd, zq1, zw0, zq0, zx0, zx2, zx1, zy0, zw1, List.range', ↓reduceIte, reduceCtorEq, Nat.reduceEqDiff, Nat.reduceAdd, Nat.reduceLeDiff, Nat.reduceMul, Nat.reduceLT, Nat.reduceBEq, Int.reduceEq, tf_Ts2_54]
    refine arun_drawP mixed (by decide +kernel) (by decide +kernel) ?_
    simp -implicitDefEqProofs only [ev_at (av := Tm.av) eI_23 hx (Tm.av_width x), ev_at (av := Tm.av) eI_23 hy (Tm.av_width y), Tm.av_agg, Tm.av_width, evE, ↓evZ2, ↓evZ3, ↓Int.cast_ofNat_Int, implies_true, zy2, aFn, List.contains, List.elem, zq3, zy1, zq2, sub, zx3, zw2, zw3, zy3, gd, zq1, zw0, zq0, zx0, zx2, zx1, zy0, zw1, List.range', ↓reduceIte, reduceCtorEq, Nat.reduceEqDiff, Nat.reduceAdd, Nat.reduceLeDiff, Nat.reduceMul, Nat.reduceLT, Nat.reduceBEq, Int.reduceEq, tf_Ts2_54]
    refine (hc x (List.mem_of_getElem? hx) y st).to ?_
    simp -implicitDefEqProofs only [evE, ↓evZ2, ↓evZ3, ↓Int.cast_ofNat_Int, implies_true, zy2, aFn, List.contains, List.elem, zq3, zy1, zq2, sub, zx3, zw2, zw3, zy3, gd, zq1, zw0, zq0, zx0, zx2, zx1, zy0, zw1, List.range', ↓reduceIte, reduceCtorEq, Nat.reduceEqDiff, Nat.reduceAdd, Nat.reduceLeDiff, Nat.reduceMul, Nat.reduceLT, Nat.reduceBEq, Int.reduceEq, tf_Ts2_54]
    refine ⟨fun h6 => ?_, fun h6 => ?_⟩
    · simp -implicitDefEqProofs only [evE, ↓evZ2, ↓evZ3, ↓Int.cast_ofNat_Int, implies_true, zy2, aFn, List.contains, List.elem, zq3, zy1, zq2, sub, zx3, zw2, zw3, zy3, gd, zq1, zw0, zq0, zx0, zx2, zx1, zy0, zw1, List.range', ↓reduceIte, reduceCtorEq, Nat.reduceEqDiff, Nat.reduceAdd, Nat.reduceLeDiff, Nat.reduceMul, Nat.reduceLT, Nat.reduceBEq, Int.reduceEq, tf_Ts2_54]
      have h7 : Tm.same x y = false := by simpa using h6
      rw [eqL_at _ i x y hx hy h7]
    have h7 : Tm.same x y = true := by simpa using h6
    simp -implicitDefEqProofs only [evE, ↓evZ2, ↓evZ3, ↓Int.cast_ofNat_Int, implies_true, zy2, aFn, List.contains, List.elem, zq3, zy1, zq2, sub, zx3, zw2, zw3, zy3, gd, zq1, zw0, zq0, zx0, zx2, zx1, zy0, zw1, List.range', ↓reduceIte, reduceCtorEq, Nat.reduceEqDiff, Nat.reduceAdd, Nat.reduceLeDiff, Nat.reduceMul, Nat.reduceLT, Nat.reduceBEq, Int.reduceEq, tf_Ts2_54]
    refine ⟨i + 1, by omega, ⟨by omega, fun j u v hj hu hv => ?_⟩, zx7.mk ?_⟩
    · rcases Nat.lt_or_ge j i with h8 | h8
      · exact hall j u v h8 hu hv
      · obtain rfl : j = i := by omega
        rw [hx] at hu; rw [hy] at hv; cases hu; cases hv; exact h7
    · have := wrap64 (n := (i : Int) + 1) (by omega) (by omega)
      simp -implicitDefEqProofs only [this, evE, ↓evZ2, ↓evZ3, ↓Int.cast_ofNat_Int, implies_true, zy2, aFn, List.contains, List.elem, zq3, zy1, zq2, sub, zx3, zw2, zw3, zy3, gd, zq1, zw0, zq0, zx0, zx2, zx1, zy0, zw1, List.range', ↓reduceIte, reduceCtorEq, Nat.reduceEqDiff, Nat.reduceAdd, Nat.reduceLeDiff, Nat.reduceMul, Nat.reduceLT, Nat.reduceBEq, Int.reduceEq, tf_Ts2_54]
termination_by a => SizeOf.sizeOf a
decreasing_by have := List.sizeOf_lt_of_mem hx; simp only [Tm.mk.sizeOf_spec]; omega
end Go.AW


namespace Go.AW
open Go.Proofs.Try
set_option linter.unusedSimpArgs false
set_option maxRecDepth 100000
abbrev tf_B4_42 := And.intro tI_2 (And.intro zI_2 (And.intro underlying2 (And.intro tI_3 (And.intro zI_3 (And.intro underlying3 (And.intro tI_4 (And.intro zI_4 underlying4)))))))
theorem c_holds (b : Bool) (st : zy7) : zq7 prog 42 [.bool b] st (fun r st' => r = .int .i64 (codeB b) ∧ st' = st) := by
  refine zw6 [1000000] func42 ntmps42 rfl rfl (by kernel_rfl) (by decide +kernel) (by show 1 ≤ _; decide +kernel) ?_
  intro _
  simp -implicitDefEqProofs only [evE, ↓evZ2, ↓evZ3, ↓Int.cast_ofNat_Int, implies_true, zy2, aFn, List.contains, List.elem, zq3, zy1, zq2, sub, zx3, zw2, zw3, zy3, gd, zq1, zw0, zq0, zx0, zx2, zx1, zy0, zw1, List.range', ↓reduceIte, reduceCtorEq, Nat.reduceEqDiff, Nat.reduceAdd, Nat.reduceLeDiff, Nat.reduceMul, Nat.reduceLT, Nat.reduceBEq, Int.reduceEq, tf_B4_42]
  cases b
  · simp -implicitDefEqProofs only [codeB, evE, ↓evZ2, ↓evZ3, ↓Int.cast_ofNat_Int, implies_true, zy2, aFn, List.contains, List.elem, zq3, zy1, zq2, sub, zx3, zw2, zw3, zy3, gd, zq1, zw0, zq0, zx0, zx2, zx1, zy0, zw1, List.range', ↓reduceIte, reduceCtorEq, Nat.reduceEqDiff, Nat.reduceAdd, Nat.reduceLeDiff, Nat.reduceMul, Nat.reduceLT, Nat.reduceBEq, Int.reduceEq, tf_B4_42]
  · simp -implicitDefEqProofs only [codeB, evE, ↓evZ2, ↓evZ3, ↓Int.cast_ofNat_Int, implies_true, zy2, aFn, List.contains, List.elem, zq3, zy1, zq2, sub, zx3, zw2, zw3, zy3, gd, zq1, zw0, zq0, zx0, zx2, zx1, zy0, zw1, List.range', ↓reduceIte, reduceCtorEq, Nat.reduceEqDiff, Nat.reduceAdd, Nat.reduceLeDiff, Nat.reduceMul, Nat.reduceLT, Nat.reduceBEq, Int.reduceEq, tf_B4_42]
abbrev tf_B4_46 := And.intro tI_2 (And.intro zI_2 (And.intro underlying2 (And.intro tI_3 (And.intro zI_3 (And.intro underlying3 (And.intro tI_5 (And.intro zI_5 (And.intro underlying5 (And.intro tI_25 (And.intro zI_25 (And.intro fI_25_0 (And.intro fI_25_1 (And.intro fI_25_2 (And.intro fI_25_3 bI_25))))))))))))))
theorem c_number (n : Int) (st : zy7) : zq7 prog 46 [.int .i64 n] st (fun r st' => r = (itm n).av ∧ st' = st) := by
  refine zq7.done ?_
  refine zw6 [1000000] func46 ntmps46 rfl rfl (by kernel_rfl) (by decide +kernel) (by show 1 ≤ _; decide +kernel) ?_
  intro _
  simp -implicitDefEqProofs only [zy4, evE, ↓evZ2, ↓evZ3, ↓Int.cast_ofNat_Int, implies_true, zy2, aFn, List.contains, List.elem, zq3, zy1, zq2, sub, zx3, zw2, zw3, zy3, gd, zq1, zw0, zq0, zx0, zx2, zx1, zy0, zw1, List.range', ↓reduceIte, reduceCtorEq, Nat.reduceEqDiff, Nat.reduceAdd, Nat.reduceLeDiff, Nat.reduceMul, Nat.reduceLT, Nat.reduceBEq, Int.reduceEq, tf_B4_46]
  intro b hb
  unfold itm
  exact ⟨by simp only [Tm.av_mk, soft_agg, soft_tup, soft_int, soft_bool, soft_str, soft_slice, soft_fslice, soft_ptr, soft_pptr, soft_map, soft_mslice, Tm.soft, List.map_cons, List.map_nil, List.map_nil], (Drops.refl _).upd hb⟩
abbrev tf_B4_40 := And.intro tI_2 (And.intro zI_2 (And.intro underlying2 (And.intro tI_3 (And.intro zI_3 (And.intro underlying3 (And.intro tI_4 (And.intro zI_4 (And.intro underlying4 (And.intro tI_5 (And.intro zI_5 (And.intro underlying5 (And.intro tI_8 (And.intro zI_8 (And.intro fI_8_0 (And.intro fI_8_1 (And.intro fI_8_2 (And.intro fI_8_3 (And.intro bI_8 (And.intro tI_9 (And.intro zI_9 (And.intro underlying9 (And.intro tI_13 (And.intro zI_13 (And.intro fI_13_0 (And.intro fI_13_1 (And.intro bI_13 (And.intro tI_15 (And.intro zI_15 (And.intro tI_16 (And.intro zI_16 (And.intro tI_18 (And.intro zI_18 (And.intro fI_18_0 (And.intro bI_18 (And.intro tI_23 (And.intro zI_23 (And.intro eI_23 (And.intro eB_23 (And.intro eZ_23 (And.intro underlying23 (And.intro tI_25 (And.intro zI_25 (And.intro fI_25_0 (And.intro fI_25_1 (And.intro fI_25_2 (And.intro fI_25_3 (And.intro bI_25 (And.intro tI_58 (And.intro zI_58 (And.intro fI_58_0 (And.intro fI_58_1 (And.intro bI_58 (And.intro tI_61 (And.intro zI_61 (And.intro eI_61 (And.intro eB_61 (And.intro eZ_61 (And.intro underlying61 (And.intro tI_63 (And.intro zI_63 (And.intro eI_63 (And.intro eB_63 (And.intro eZ_63 (And.intro underlying63 (And.intro tI_67 zI_67)))))))))))))))))))))))))))))))))))))))))))))))))))))))))))))))))
theorem c_compares (k n : Int) (s : ByteArray) (ts : List Tm) (st : zy7) : zq7 prog 40 [(Tm.mk k n s ts).av] st (fun r st' => r = .bool (decide (k = 3) && decide ((ts.length : Int) = 2) && inN cmpNames s) ∧ st' = st) := by
  simp only [Tm.av_mk]
  refine zw6 [1000000] func40 ntmps40 rfl rfl (by kernel_rfl) (by decide +kernel) (by show 1 ≤ _; decide +kernel) ?_
  intro _
  simp -implicitDefEqProofs only [List.length_map, evE, ↓evZ2, ↓evZ3, ↓Int.cast_ofNat_Int, implies_true, zy2, aFn, List.contains, List.elem, zq3, zy1, zq2, sub, zx3, zw2, zw3, zy3, gd, zq1, zw0, zq0, zx0, zx2, zx1, zy0, zw1, List.range', ↓reduceIte, reduceCtorEq, Nat.reduceEqDiff, Nat.reduceAdd, Nat.reduceLeDiff, Nat.reduceMul, Nat.reduceLT, Nat.reduceBEq, Int.reduceEq, tf_B4_40]
  refine zx4 (fun h => ?_) (fun h => ?_)
  · simp -implicitDefEqProofs only [h, List.length_map, evE, ↓evZ2, ↓evZ3, ↓Int.cast_ofNat_Int, implies_true, zy2, aFn, List.contains, List.elem, zq3, zy1, zq2, sub, zx3, zw2, zw3, zy3, gd, zq1, zw0, zq0, zx0, zx2, zx1, zy0, zw1, List.range', ↓reduceIte, reduceCtorEq, Nat.reduceEqDiff, Nat.reduceAdd, Nat.reduceLeDiff, Nat.reduceMul, Nat.reduceLT, Nat.reduceBEq, Int.reduceEq, tf_B4_40]
    refine zx4 (fun h2 => ?_) (fun h2 => ?_)
    · simp -implicitDefEqProofs only [h2, List.length_map, evE, ↓evZ2, ↓evZ3, ↓Int.cast_ofNat_Int, implies_true, zy2, aFn, List.contains, List.elem, zq3, zy1, zq2, sub, zx3, zw2, zw3, zy3, gd, zq1, zw0, zq0, zx0, zx2, zx1, zy0, zw1, List.range', ↓reduceIte, reduceCtorEq, Nat.reduceEqDiff, Nat.reduceAdd, Nat.reduceLeDiff, Nat.reduceMul, Nat.reduceLT, Nat.reduceBEq, Int.reduceEq, tf_B4_40]
      refine (c_ContainsS' cmpNames s _).to ?_
      simp -implicitDefEqProofs only [h, h2, List.length_map, evE, ↓evZ2, ↓evZ3, ↓Int.cast_ofNat_Int, implies_true, zy2, aFn, List.contains, List.elem, zq3, zy1, zq2, sub, zx3, zw2, zw3, zy3, gd, zq1, zw0, zq0, zx0, zx2, zx1, zy0, zw1, List.range', ↓reduceIte, reduceCtorEq, Nat.reduceEqDiff, Nat.reduceAdd, Nat.reduceLeDiff, Nat.reduceMul, Nat.reduceLT, Nat.reduceBEq, Int.reduceEq, tf_B4_40]
      simp [h, h2, inN]
    · simp -implicitDefEqProofs only [h2, List.length_map, evE, ↓evZ2, ↓evZ3, ↓Int.cast_ofNat_Int, implies_true, zy2, aFn, List.contains, List.elem, zq3, zy1, zq2, sub, zx3, zw2, zw3, zy3, gd, zq1, zw0, zq0, zx0, zx2, zx1, zy0, zw1, List.range', ↓reduceIte, reduceCtorEq, Nat.reduceEqDiff, Nat.reduceAdd, Nat.reduceLeDiff, Nat.reduceMul, Nat.reduceLT, Nat.reduceBEq, Int.reduceEq, tf_B4_40]
      simp [h, h2]
  · simp -implicitDefEqProofs only [h, List.length_map, evE, ↓evZ2, ↓evZ3, ↓Int.cast_ofNat_Int, implies_true, zy2, aFn, List.contains, List.elem, zq3, zy1, zq2, sub, zx3, zw2, zw3, zy3, gd, zq1, zw0, zq0, zx0, zx2, zx1, zy0, zw1, List.range', ↓reduceIte, reduceCtorEq, Nat.reduceEqDiff, Nat.reduceAdd, Nat.reduceLeDiff, Nat.reduceMul, Nat.reduceLT, Nat.reduceBEq, Int.reduceEq, tf_B4_40]
    simp [h]
abbrev tf_B4_41 := And.intro tI_2 (And.intro zI_2 (And.intro underlying2 (And.intro tI_3 (And.intro zI_3 (And.intro underlying3 (And.intro tI_4 (And.intro zI_4 (And.intro underlying4 (And.intro tI_5 (And.intro zI_5 (And.intro underlying5 (And.intro tI_6 (And.intro zI_6 (And.intro underlying6 (And.intro tI_7 (And.intro zI_7 (And.intro fI_7_0 (And.intro fI_7_1 (And.intro fI_7_2 (And.intro fI_7_3 (And.intro bI_7 (And.intro tI_8 (And.intro zI_8 (And.intro fI_8_0 (And.intro fI_8_1 (And.intro fI_8_2 (And.intro fI_8_3 (And.intro bI_8 (And.intro tI_9 (And.intro zI_9 (And.intro underlying9 (And.intro tI_10 (And.intro zI_10 (And.intro underlying10 (And.intro tI_11 (And.intro zI_11 (And.intro underlying11 (And.intro tI_12 (And.intro zI_12 (And.intro underlying12 (And.intro tI_13 (And.intro zI_13 (And.intro fI_13_0 (And.intro fI_13_1 (And.intro bI_13 (And.intro tI_14 (And.intro zI_14 (And.intro fI_14_0 (And.intro fI_14_1 (And.intro bI_14 (And.intro tI_15 (And.intro zI_15 (And.intro tI_16 (And.intro zI_16 (And.intro tI_21 (And.intro zI_21 (And.intro underlying21 (And.intro tI_22 (And.intro zI_22 (And.intro eI_22 (And.intro eB_22 (And.intro eZ_22 (And.intro underlying22 (And.intro tI_23 (And.intro zI_23 (And.intro eI_23 (And.intro eB_23 (And.intro eZ_23 (And.intro underlying23 (And.intro tI_25 (And.intro zI_25 (And.intro fI_25_0 (And.intro fI_25_1 (And.intro fI_25_2 (And.intro fI_25_3 (And.intro bI_25 (And.intro tI_34 (And.intro zI_34 (And.intro tI_57 (And.intro zI_57 (And.intro fI_57_0 (And.intro fI_57_1 (And.intro bI_57 (And.intro tI_58 (And.intro zI_58 (And.intro fI_58_0 (And.intro fI_58_1 (And.intro bI_58 (And.intro tI_61 (And.intro zI_61 (And.intro eI_61 (And.intro eB_61 (And.intro eZ_61 (And.intro underlying61 (And.intro tI_97 (And.intro zI_97 underlying97))))))))))))))))))))))))))))))))))))))))))))))))))))))))))))))))))))))))))))))))))))))))))))))))
theorem c_compared (n : Int) (s : ByteArray) (x y : Tm) (hs : inN cmpNames s = true) {N : Int} (hx : OkV N x) (hy : OkV N y) (st : zy7) : zq7 prog 41 [(Tm.mk 3 n s [x, y]).av] st (fun r st' => r = .int .i64 (cmpC s x y) ∧ st' = st) := by
  have hat0 : aIndexAddr prog 23 (.slice [x.av, y.av]) (.int .i64 0) = some (.pptr x.av) := ev_at (av := Tm.av) (l := [x, y]) (i := 0) eI_23 rfl (Tm.av_width x)
  have hat1 : aIndexAddr prog 23 (.slice [x.av, y.av]) (.int .i64 1) = some (.pptr y.av) := ev_at (av := Tm.av) (l := [x, y]) (i := 1) eI_23 rfl (Tm.av_width y)
  have hax := fun st => c_arith x st hx
  have hay := fun st => c_arith y st hy
  unfold cmpC both
  simp only [Tm.av_mk, List.map_cons, List.map_nil]
  refine zw6 [1000000] func41 ntmps41 rfl rfl (by kernel_rfl) (by decide +kernel) (by show 1 ≤ _; decide +kernel) ?_
  intro _
  simp -implicitDefEqProofs only [hat0, hat1, Tm.av_agg, Tm.av_width, evE, ↓evZ2, ↓evZ3, ↓Int.cast_ofNat_Int, implies_true, zy2, aFn, List.contains, List.elem, zq3, zy1, zq2, sub, zx3, zw2, zw3, zy3, gd, zq1, zw0, zq0, zx0, zx2, zx1, zy0, zw1, List.range', ↓reduceIte, reduceCtorEq, Nat.reduceEqDiff, Nat.reduceAdd, Nat.reduceLeDiff, Nat.reduceMul, Nat.reduceLT, Nat.reduceBEq, Int.reduceEq, tf_B4_41]
  refine (hax _).to ?_
  generalize x.ev.1 = a at *
  generalize x.ev.2 = ca at *
  generalize y.ev.1 = b at *
  generalize y.ev.2 = cb at *
  simp -implicitDefEqProofs only [hat0, hat1, Tm.av_agg, Tm.av_width, evE, ↓evZ2, ↓evZ3, ↓Int.cast_ofNat_Int, implies_true, zy2, aFn, List.contains, List.elem, zq3, zy1, zq2, sub, zx3, zw2, zw3, zy3, gd, zq1, zw0, zq0, zx0, zx2, zx1, zy0, zw1, List.range', ↓reduceIte, reduceCtorEq, Nat.reduceEqDiff, Nat.reduceAdd, Nat.reduceLeDiff, Nat.reduceMul, Nat.reduceLT, Nat.reduceBEq, Int.reduceEq, tf_B4_41]
  refine zq4 (fun h4 => ?_) (fun h4 => ?_)
  · simp -implicitDefEqProofs only [hat0, hat1, Tm.av_agg, Tm.av_width, evE, ↓evZ2, ↓evZ3, ↓Int.cast_ofNat_Int, implies_true, zy2, aFn, List.contains, List.elem, zq3, zy1, zq2, sub, zx3, zw2, zw3, zy3, gd, zq1, zw0, zq0, zx0, zx2, zx1, zy0, zw1, List.range', ↓reduceIte, reduceCtorEq, Nat.reduceEqDiff, Nat.reduceAdd, Nat.reduceLeDiff, Nat.reduceMul, Nat.reduceLT, Nat.reduceBEq, Int.reduceEq, tf_B4_41]
    have h4' : ca ≠ 0 := by simpa using h4
    rw [if_pos h4']
  have h4' : ca = 0 := by simpa using h4
  subst h4'
  rw [if_neg (by simp)]
  simp -implicitDefEqProofs only [hat0, hat1, Tm.av_agg, Tm.av_width, evE, ↓evZ2, ↓evZ3, ↓Int.cast_ofNat_Int, implies_true, zy2, aFn, List.contains, List.elem, zq3, zy1, zq2, sub, zx3, zw2, zw3, zy3, gd, zq1, zw0, zq0, zx0, zx2, zx1, zy0, zw1, List.range', ↓reduceIte, reduceCtorEq, Nat.reduceEqDiff, Nat.reduceAdd, Nat.reduceLeDiff, Nat.reduceMul, Nat.reduceLT, Nat.reduceBEq, Int.reduceEq, tf_B4_41]
  refine (hay _).to ?_
  simp -implicitDefEqProofs only [hat0, hat1, Tm.av_agg, Tm.av_width, evE, ↓evZ2, ↓evZ3, ↓Int.cast_ofNat_Int, implies_true, zy2, aFn, List.contains, List.elem, zq3, zy1, zq2, sub, zx3, zw2, zw3, zy3, gd, zq1, zw0, zq0, zx0, zx2, zx1, zy0, zw1, List.range', ↓reduceIte, reduceCtorEq, Nat.reduceEqDiff, Nat.reduceAdd, Nat.reduceLeDiff, Nat.reduceMul, Nat.reduceLT, Nat.reduceBEq, Int.reduceEq, tf_B4_41]
  refine zq4 (fun h5 => ?_) (fun h5 => ?_)
  · simp -implicitDefEqProofs only [hat0, hat1, Tm.av_agg, Tm.av_width, evE, ↓evZ2, ↓evZ3, ↓Int.cast_ofNat_Int, implies_true, zy2, aFn, List.contains, List.elem, zq3, zy1, zq2, sub, zx3, zw2, zw3, zy3, gd, zq1, zw0, zq0, zx0, zx2, zx1, zy0, zw1, List.range', ↓reduceIte, reduceCtorEq, Nat.reduceEqDiff, Nat.reduceAdd, Nat.reduceLeDiff, Nat.reduceMul, Nat.reduceLT, Nat.reduceBEq, Int.reduceEq, tf_B4_41]
    have h5' : cb ≠ 0 := by simpa using h5
    rw [if_pos h5']
  have h5' : cb = 0 := by simpa using h5
  subst h5'
  rw [if_neg (by simp)]
  unfold cmpH
  simp -implicitDefEqProofs only [hat0, hat1, Tm.av_agg, Tm.av_width, evE, ↓evZ2, ↓evZ3, ↓Int.cast_ofNat_Int, implies_true, zy2, aFn, List.contains, List.elem, zq3, zy1, zq2, sub, zx3, zw2, zw3, zy3, gd, zq1, zw0, zq0, zx0, zx2, zx1, zy0, zw1, List.range', ↓reduceIte, reduceCtorEq, Nat.reduceEqDiff, Nat.reduceAdd, Nat.reduceLeDiff, Nat.reduceMul, Nat.reduceLT, Nat.reduceBEq, Int.reduceEq, tf_B4_41]
  refine zq4 (fun h6 => ?_) (fun h6 => ?_)
  · simp -implicitDefEqProofs only [hat0, hat1, Tm.av_agg, Tm.av_width, evE, ↓evZ2, ↓evZ3, ↓Int.cast_ofNat_Int, implies_true, zy2, aFn, List.contains, List.elem, zq3, zy1, zq2, sub, zx3, zw2, zw3, zy3, gd, zq1, zw0, zq0, zx0, zx2, zx1, zy0, zw1, List.range', ↓reduceIte, reduceCtorEq, Nat.reduceEqDiff, Nat.reduceAdd, Nat.reduceLeDiff, Nat.reduceMul, Nat.reduceLT, Nat.reduceBEq, Int.reduceEq, tf_B4_41]
    rw [if_pos (by simpa using h6)]
    refine (c_holds _ _).to ?_
    simp -implicitDefEqProofs only [hat0, hat1, Tm.av_agg, Tm.av_width, evE, ↓evZ2, ↓evZ3, ↓Int.cast_ofNat_Int, implies_true, zy2, aFn, List.contains, List.elem, zq3, zy1, zq2, sub, zx3, zw2, zw3, zy3, gd, zq1, zw0, zq0, zx0, zx2, zx1, zy0, zw1, List.range', ↓reduceIte, reduceCtorEq, Nat.reduceEqDiff, Nat.reduceAdd, Nat.reduceLeDiff, Nat.reduceMul, Nat.reduceLT, Nat.reduceBEq, Int.reduceEq, tf_B4_41]
  rw [if_neg (by simpa using h6)]
  simp -implicitDefEqProofs only [hat0, hat1, Tm.av_agg, Tm.av_width, evE, ↓evZ2, ↓evZ3, ↓Int.cast_ofNat_Int, implies_true, zy2, aFn, List.contains, List.elem, zq3, zy1, zq2, sub, zx3, zw2, zw3, zy3, gd, zq1, zw0, zq0, zx0, zx2, zx1, zy0, zw1, List.range', ↓reduceIte, reduceCtorEq, Nat.reduceEqDiff, Nat.reduceAdd, Nat.reduceLeDiff, Nat.reduceMul, Nat.reduceLT, Nat.reduceBEq, Int.reduceEq, tf_B4_41]
  refine zq4 (fun h7 => ?_) (fun h7 => ?_)
  · simp -implicitDefEqProofs only [hat0, hat1, Tm.av_agg, Tm.av_width, evE, ↓evZ2, ↓evZ3, ↓Int.cast_ofNat_Int, implies_true, zy2, aFn, List.contains, List.elem, zq3, zy1, zq2, sub, zx3, zw2, zw3, zy3, gd, zq1, zw0, zq0, zx0, zx2, zx1, zy0, zw1, List.range', ↓reduceIte, reduceCtorEq, Nat.reduceEqDiff, Nat.reduceAdd, Nat.reduceLeDiff, Nat.reduceMul, Nat.reduceLT, Nat.reduceBEq, Int.reduceEq, tf_B4_41]
    rw [if_pos (by simpa using h7)]
    refine (c_holds _ _).to ?_
    simp -implicitDefEqProofs only [hat0, hat1, Tm.av_agg, Tm.av_width, evE, ↓evZ2, ↓evZ3, ↓Int.cast_ofNat_Int, implies_true, zy2, aFn, List.contains, List.elem, zq3, zy1, zq2, sub, zx3, zw2, zw3, zy3, gd, zq1, zw0, zq0, zx0, zx2, zx1, zy0, zw1, List.range', ↓reduceIte, reduceCtorEq, Nat.reduceEqDiff, Nat.reduceAdd, Nat.reduceLeDiff, Nat.reduceMul, Nat.reduceLT, Nat.reduceBEq, Int.reduceEq, tf_B4_41]
  rw [if_neg (by simpa using h7)]
  simp -implicitDefEqProofs only [hat0, hat1, Tm.av_agg, Tm.av_width, evE, ↓evZ2, ↓evZ3, ↓Int.cast_ofNat_Int, implies_true, zy2, aFn, List.contains, List.elem, zq3, zy1, zq2, sub, zx3, zw2, zw3, zy3, gd, zq1, zw0, zq0, zx0, zx2, zx1, zy0, zw1, List.range', ↓reduceIte, reduceCtorEq, Nat.reduceEqDiff, Nat.reduceAdd, Nat.reduceLeDiff, Nat.reduceMul, Nat.reduceLT, Nat.reduceBEq, Int.reduceEq, tf_B4_41]
  refine zq4 (fun h8 => ?_) (fun h8 => ?_)
  · simp -implicitDefEqProofs only [hat0, hat1, Tm.av_agg, Tm.av_width, evE, ↓evZ2, ↓evZ3, ↓Int.cast_ofNat_Int, implies_true, zy2, aFn, List.contains, List.elem, zq3, zy1, zq2, sub, zx3, zw2, zw3, zy3, gd, zq1, zw0, zq0, zx0, zx2, zx1, zy0, zw1, List.range', ↓reduceIte, reduceCtorEq, Nat.reduceEqDiff, Nat.reduceAdd, Nat.reduceLeDiff, Nat.reduceMul, Nat.reduceLT, Nat.reduceBEq, Int.reduceEq, tf_B4_41]
    rw [if_pos (by simpa using h8)]
    refine (c_holds _ _).to ?_
    simp -implicitDefEqProofs only [hat0, hat1, Tm.av_agg, Tm.av_width, evE, ↓evZ2, ↓evZ3, ↓Int.cast_ofNat_Int, implies_true, zy2, aFn, List.contains, List.elem, zq3, zy1, zq2, sub, zx3, zw2, zw3, zy3, gd, zq1, zw0, zq0, zx0, zx2, zx1, zy0, zw1, List.range', ↓reduceIte, reduceCtorEq, Nat.reduceEqDiff, Nat.reduceAdd, Nat.reduceLeDiff, Nat.reduceMul, Nat.reduceLT, Nat.reduceBEq, Int.reduceEq, tf_B4_41]
  rw [if_neg (by simpa using h8)]
  simp -implicitDefEqProofs only [hat0, hat1, Tm.av_agg, Tm.av_width, evE, ↓evZ2, ↓evZ3, ↓Int.cast_ofNat_Int, implies_true, zy2, aFn, List.contains, List.elem, zq3, zy1, zq2, sub, zx3, zw2, zw3, zy3, gd, zq1, zw0, zq0, zx0, zx2, zx1, zy0, zw1, List.range', ↓reduceIte, reduceCtorEq, Nat.reduceEqDiff, Nat.reduceAdd, Nat.reduceLeDiff, Nat.reduceMul, Nat.reduceLT, Nat.reduceBEq, Int.reduceEq, tf_B4_41]
  refine zq4 (fun h9 => ?_) (fun h9 => ?_)
  · simp -implicitDefEqProofs only [hat0, hat1, Tm.av_agg, Tm.av_width, evE, ↓evZ2, ↓evZ3, ↓Int.cast_ofNat_Int, implies_true, zy2, aFn, List.contains, List.elem, zq3, zy1, zq2, sub, zx3, zw2, zw3, zy3, gd, zq1, zw0, zq0, zx0, zx2, zx1, zy0, zw1, List.range', ↓reduceIte, reduceCtorEq, Nat.reduceEqDiff, Nat.reduceAdd, Nat.reduceLeDiff, Nat.reduceMul, Nat.reduceLT, Nat.reduceBEq, Int.reduceEq, tf_B4_41]
    rw [if_pos (by simpa using h9)]
    refine (c_holds _ _).to ?_
    simp -implicitDefEqProofs only [hat0, hat1, Tm.av_agg, Tm.av_width, evE, ↓evZ2, ↓evZ3, ↓Int.cast_ofNat_Int, implies_true, zy2, aFn, List.contains, List.elem, zq3, zy1, zq2, sub, zx3, zw2, zw3, zy3, gd, zq1, zw0, zq0, zx0, zx2, zx1, zy0, zw1, List.range', ↓reduceIte, reduceCtorEq, Nat.reduceEqDiff, Nat.reduceAdd, Nat.reduceLeDiff, Nat.reduceMul, Nat.reduceLT, Nat.reduceBEq, Int.reduceEq, tf_B4_41]
  rw [if_neg (by simpa using h9)]
  simp -implicitDefEqProofs only [hat0, hat1, Tm.av_agg, Tm.av_width, evE, ↓evZ2, ↓evZ3, ↓Int.cast_ofNat_Int, implies_true, zy2, aFn, List.contains, List.elem, zq3, zy1, zq2, sub, zx3, zw2, zw3, zy3, gd, zq1, zw0, zq0, zx0, zx2, zx1, zy0, zw1, List.range', ↓reduceIte, reduceCtorEq, Nat.reduceEqDiff, Nat.reduceAdd, Nat.reduceLeDiff, Nat.reduceMul, Nat.reduceLT, Nat.reduceBEq, Int.reduceEq, tf_B4_41]
  refine (c_holds _ _).to ?_
  simp -implicitDefEqProofs only [hat0, hat1, Tm.av_agg, Tm.av_width, evE, ↓evZ2, ↓evZ3, ↓Int.cast_ofNat_Int, implies_true, zy2, aFn, List.contains, List.elem, zq3, zy1, zq2, sub, zx3, zw2, zw3, zy3, gd, zq1, zw0, zq0, zx0, zx2, zx1, zy0, zw1, List.range', ↓reduceIte, reduceCtorEq, Nat.reduceEqDiff, Nat.reduceAdd, Nat.reduceLeDiff, Nat.reduceMul, Nat.reduceLT, Nat.reduceBEq, Int.reduceEq, tf_B4_41]
end Go.AW
