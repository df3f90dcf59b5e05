import Derived.Test.YtepkgoabhlnkbaaGreatDoorSesl
import Derived.Test.YtepkgoabhlnkbaaGreatDoorSesk
import Derived.Test.YtepkgoabhlnkbaaGreatDoorSesj
import Derived.Test.YtepkgoabhlnkbaaGreatDoorSesf
import Derived.Test.YtepkgoabhlnkbaaGreatDoorSesi
set_option linter.unusedSimpArgs false
set_option linter.unusedVariables false
set_option maxRecDepth 100000
namespace Go.AW
open Go.Proofs.Tryz
def Rsv (v : Tm) (D : Nat) (cnt cb : Nat) (st : zy7) (r : AV) (st' : zy7) : Prop :=
 ∃ cnt' : Nat, cnt' ≤ 121 ∧ st' = st.upd cb (.cells [.int .i64 cnt']) ∧
  if v.flat D = true ∧ cnt + v.nodes ≤ 120 then r = .tup [v.av, .bool true] ∧ cnt' = cnt + v.nodes else r = .tup [Tm.zero.av, .bool false]
theorem sumL_append {α : Type} (f : α → Nat) : ∀ l m : List α, sumL f (l ++ m) = sumL f l + sumL f m
 | [], m => by simp [sumL]
 | x :: l, m => by simp only [List.cons_append, sumL, sumL_append f l m]; omega
abbrev Cv (t : Tm) : Prop := t.cv = true
theorem good_walked {σ : Sub} {R : Int → Tm} {rk : Int → Nat} {B f : Nat} (G : Good σ R rk B) {t : Tm} {k n : Int} {s : ByteArray} {ts : List Tm} (hw : WkN σ f t (.mk k n s ts)) (hc : Cv (.mk k n s ts)) : t.mapv R = .mk k n s (ts.map (Tm.mapv R)) := by
 rw [← hw.mapv G.isSol]
 by_cases hk : k = 1
 · rw [Tm.mapv_var R hk, G.free (show σ n = none from hw.end hk)]
   obtain ⟨h1, _⟩ := Tm.cv_mk.1 hc
   obtain ⟨rfl, rfl⟩ := h1 hk
   rw [hk]; rfl
 · rw [Tm.mapv_mk R hk]
abbrev tf_S5_130 := zi tI_3 (zi zI_3 (zi underlying3 (zi tI_4 (zi zI_4 (zi underlying4 (zi tI_9 (zi zI_9 (zi underlying9 (zi tI_29 (zi zI_29 (zi eI_29 (zi eB_29 (zi eZ_29 (zi underlying29 (zi tI_56 (zi zI_56 (zi fI_56_0 (zi fI_56_1 (zi fI_56_2 (zi fI_56_3 (zi bI_56 (zi tI_104 (zi zI_104 (zi tI_123 zI_123))))))))))))))))))))))))
theorem c_resolving {σ : Sub} {R : Int → Tm} {rk : Int → Nat} {B : Nat} (G : Good σ R rk B) (hcv : AllS Cv σ) (hsm : AllS Sm σ) (c m cb : Nat) (q : AV) (hcb : cb ≠ c ∧ cb ≠ m) :
 ∀ (D : Nat) (t : Tm) (cnt : Nat) (st : zy7), D ≤ 31 → Cv t → Sm t → cnt ≤ 120 → SubAt st c m q σ → st cb = some (.cells [.int .i64 cnt]) →
 zq7 prog 130 [.ptr c 0, t.av, .int .i64 (31 - D : Int), .ptr cb 0] st (Rsv (t.mapv R) D cnt cb st)
 | D, t, cnt, st, hD, hct, hst, hcnt, hS, hC => by
  have IH := fun (D' : Nat) (hlt : D' < D) (x : Tm) cnt st => c_resolving G hcv hsm c m cb q hcb D' x cnt st
  obtain ⟨f, hw⟩ := G.wk t
  generalize wk σ t = u at *
  have hcu := hw.all (p := Cv) hcv hct
  have hsu := hw.all (p := Sm) hsm hst
  have hcw := fun st (hS : SubAt st c m q σ) => c_walk hw c m q st hS
  obtain ⟨k, n, s, ts⟩ := u
  have hv := good_walked G hw hcu
  rw [hv]
  obtain ⟨hlen, hsms⟩ := Tm.small_mk hsu
  obtain ⟨_, hcvs⟩ := Tm.cv_mk.1 hcu
  refine zq7.dropS (zq7.fin ?_)
  refine wF [1000000, 5, 10] 4 func130 ntmps130 rfl rfl ?_
  intro _
  simp -implicitDefEqProofs only [zy4, evF, ↓evZ, implies_true, seval, tf_S5_130]
  intro b5 h5 b8 h8
  have h85 : b8 ≠ b5 := by rintro rfl; rw [zy7.upd_same] at h8; cases h8
  have hn8 : st b8 = none := by rw [zy7.upd_ne st _ h85] at h8; exact h8
  have hS' : ∀ o o', SubAt ((st.upd b5 o).upd b8 o') c m q σ := fun o o' => (hS.upd h5).upd (by rw [zy7.upd_ne _ _ h85]; exact hn8)
  have hb5 : cb ≠ b5 := by rintro rfl; rw [hC] at h5; cases h5
  have hb8 : cb ≠ b8 := by rintro rfl; rw [hC] at hn8; cases hn8
  have hwc : IntKind.i64.wrap ((cnt : Int) + 1) = (cnt : Int) + 1 := wrap64 (by omega) (by omega)
  simp -implicitDefEqProofs only [zy4, h85, h85.symm, hb5, hb8, hb5.symm, hb8.symm, hC, hwc, evF, ↓evZ, implies_true, seval, tf_S5_130]
  refine (hcw _ (hS' _ _)).to ?_
  simp only [Tm.av_mk]
  simp -implicitDefEqProofs only [zy4, h85, h85.symm, hb5, hb8, hb5.symm, hb8.symm, hC, hwc, evF, ↓evZ, implies_true, seval, tf_S5_130]
  have hfail : ∀ (st' : zy7) (cnt' : Nat), cnt' ≤ 121 → Drops st' (st.upd cb (.cells [.int .i64 cnt'])) → ¬ ((Tm.mk k n s (ts.map (Tm.mapv R))).flat D = true ∧ cnt + (Tm.mk k n s (ts.map (Tm.mapv R))).nodes ≤ 120) →
   ∃ b l s0, st' = accS s0 b l ∧ (l ≠ [] → s0 b = none) ∧ (∀ e ∈ l, e.isJunk = false) ∧ Even l ∧ ∃ s2, Drops s0 s2 ∧ Rsv (Tm.mk k n s (ts.map (Tm.mapv R))) D cnt cb st (AV.fin b l (.tup [.agg [.int .i64 0, .int .i64 0, .str ⟨#[]⟩, .fslice []], .bool false])) s2 := fun st' cnt' h1 h2 h3 => by
   refine ⟨0, [], st', rfl, by simp, by simp, ⟨4, by simp⟩, _, h2, cnt', h1, rfl, ?_⟩
   rw [if_neg h3]
   simp only [Tm.zero, Tm.av_mk, fin_agg, fin_tup, fin_int, fin_bool, fin_str, fin_slice, fin_fslice, fin_pptr, fin_ptr, fin_func, fin_map, fin_undef, fin_accV, tm_fin, List.map_cons, List.map_nil]
  have hdr : ∀ o5 o8 o5' o8' cnt', Drops (((((st.upd b5 o5).upd b8 o8).upd b5 o5').upd cb (.cells [.int .i64 cnt'])).upd b8 o8') (st.upd cb (.cells [.int .i64 cnt'])) := fun o5 o8 o5' o8' cnt' x => by
   by_cases e5 : x = b5 <;> by_cases e8 : x = b8 <;> by_cases ec : x = cb <;> simp_all [zy7.upd]
  refine zx4 (fun h => ?_) (fun h => ?_)
  case refine_2 =>
   simp -implicitDefEqProofs only [h, zy4, h85, h85.symm, hb5, hb8, hb5.symm, hb8.symm, hC, hwc, evF, ↓evZ, implies_true, seval, tf_S5_130]
   refine hfail _ (cnt + 1) (by omega) (hdr _ _ _ _ _) ?_
   simp at h
   rw [Tm.nodes_mk]
   omega
  simp -implicitDefEqProofs only [h, zy4, h85, h85.symm, hb5, hb8, hb5.symm, hb8.symm, hC, hwc, evF, ↓evZ, implies_true, seval, tf_S5_130]
  simp at h
  refine zq4 (fun h2 => ?_) (fun h2 => ?_)
  · simp only [decide_eq_true_eq] at h2
    obtain rfl : D = 0 := by omega
    simp -implicitDefEqProofs only [zy4, h85, h85.symm, hb5, hb8, hb5.symm, hb8.symm, hC, hwc, evF, ↓evZ, implies_true, seval, tf_S5_130]
    exact hfail _ (cnt + 1) (by omega) (hdr _ _ _ _ _) (by rw [Tm.flat_zero]; simp)
  simp only [decide_eq_false_iff_not] at h2
  obtain ⟨D', rfl⟩ : ∃ D', D = D' + 1 := ⟨D - 1, by omega⟩
  have hdeep : IntKind.i64.wrap (31 - ((D' : Int) + 1) + 1) = 31 - (D' : Int) := by rw [wrap64 (by omega) (by omega)]; omega
  simp -implicitDefEqProofs only [zy4, h85, h85.symm, hb5, hb8, hb5.symm, hb8.symm, hC, hwc, evF, ↓evZ, implies_true, seval, tf_S5_130]
  intro b10 h10
  have h105 : b10 ≠ b5 := by rintro rfl; simp [zy7.upd, hb5.symm] at h10
  have h108 : b10 ≠ b8 := by rintro rfl; simp [zy7.upd, h85, hb8.symm] at h10
  have h10c : b10 ≠ cb := by rintro rfl; simp [zy7.upd] at h10
  have hn10 : st b10 = none := by rw [zy7.upd_ne _ _ h10c, zy7.upd_ne _ _ h105, zy7.upd_ne _ _ h108, zy7.upd_ne _ _ h105] at h10; exact h10
  simp -implicitDefEqProofs only [zy4, h85, h85.symm, hb5, hb8, hb5.symm, hb8.symm, h105, h105.symm, h108, h108.symm, h10c, h10c.symm, hdeep, List.length_map, evF, ↓evZ, implies_true, seval, tf_S5_130]
  rw [zy7.upd_mid h85]
  have hWS : SubAt ((st.upd b8 (.cells [.int .i64 0, .int .i64 0, .str ⟨#[]⟩, .fslice []])).upd b5 (.cells [.int .i64 k, .int .i64 n, .str s, .slice (ts.map Tm.av)])) c m q σ := (hS.upd hn8).upd (by rw [zy7.upd_ne _ _ h85.symm]; exact h5)
  have hW8 : ((st.upd b8 (.cells [.int .i64 0, .int .i64 0, .str ⟨#[]⟩, .fslice []])).upd b5 (.cells [.int .i64 k, .int .i64 n, .str s, .slice (ts.map Tm.av)])) b8 = some (.cells [.int .i64 0, .int .i64 0, .str ⟨#[]⟩, .fslice []]) := by rw [zy7.upd_ne _ _ h85, zy7.upd_same]
  have hWd : ∀ X Y Z, Drops (((((st.upd b8 (.cells [.int .i64 0, .int .i64 0, .str ⟨#[]⟩, .fslice []])).upd b5 (.cells [.int .i64 k, .int .i64 n, .str s, .slice (ts.map Tm.av)])).upd cb X).upd b8 Y).upd b10 Z) (st.upd cb X) := fun X Y Z x => by
   by_cases e5 : x = b5 <;> by_cases e8 : x = b8 <;> by_cases ec : x = cb <;> by_cases e10 : x = b10 <;> simp_all [zy7.upd]
  generalize ((st.upd b8 (.cells [.int .i64 0, .int .i64 0, .str ⟨#[]⟩, .fslice []])).upd b5 (.cells [.int .i64 k, .int .i64 n, .str s, .slice (ts.map Tm.av)])) = W at *
  obtain ⟨h10cc, h10m⟩ := hS.ne hn10
  refine zy5 (σ := Nat) [1000000, 5, 10] [0, 2, 3, 8, 10, 40, 41] ts
   (fun i b => (((ts.take i).map (Tm.mapv R)).map Tm.av ≠ [] → (zy7.upd (W.upd cb (.cells [.int .i64 ((cnt + 1 + sumL Tm.nodes ((ts.take i).map (Tm.mapv R)) : Nat) : Int)])) b10 (.cells ([.int .i64 k, .int .i64 n, .str s] ++ [accV 4 b (((ts.take i).map (Tm.mapv R)).map Tm.av)]))) b = none) ∧
    cnt + 1 + sumL Tm.nodes ((ts.take i).map (Tm.mapv R)) ≤ 120 ∧ ((ts.take i).map (Tm.mapv R)).all (fun x => x.flat D') = true)
   (fun i b => [(9, .bool false), (42, .int .i64 i)])
   (fun i b => kidS (W.upd cb (.cells [.int .i64 ((cnt + 1 + sumL Tm.nodes ((ts.take i).map (Tm.mapv R)) : Nat) : Int)])) b10 b [.int .i64 k, .int .i64 n, .str s] (((ts.take i).map (Tm.mapv R)).map Tm.av)) (by decide +kernel)
   ⟨0, ⟨fun h => absurd rfl h, by simp [sumL]; omega, by simp⟩, zx7.mk (by simp -implicitDefEqProofs only [zy4, h85, h85.symm, hb5, hb8, hb5.symm, hb8.symm, h105, h105.symm, h108, h108.symm, h10c, h10c.symm, hdeep, List.length_map, evF, ↓evZ, implies_true, seval, tf_S5_130])⟩ (fun i x b hx hlt hlt' hdr' hinv => ?_) (fun b hge hinv => ?_)
  · obtain ⟨i1, i2, i3⟩ := hinv
    have htk : (ts.take (i + 1)).map (Tm.mapv R) = (ts.take i).map (Tm.mapv R) ++ [x.mapv R] := by rw [List.take_add_one, hx]; simp
    have hlen' : (((ts.take i).map (Tm.mapv R)).map Tm.av).length = i := by simp only [List.length_map, List.length_take]; omega
    have hw := wrap64 (n := (i : Int) + 1) (by omega) (by omega)
    have hmem := List.mem_of_getElem? hx
    generalize hl0 : (ts.take i).map (Tm.mapv R) = l0 at *
    generalize hc0 : cnt + 1 + sumL Tm.nodes l0 = c0 at *
    have hWc : (W.upd cb (.cells [.int .i64 (c0 : Int)])) cb ≠ none := by rw [zy7.upd_same]; simp
    have hs1 := kidS_ne i1 hWc h10c.symm
    have hsS : SubAt (kidS (W.upd cb (.cells [.int .i64 (c0 : Int)])) b10 b [.int .i64 k, .int .i64 n, .str s] (l0.map Tm.av)) c m q σ := by
     have h1 := (hWS.upd2 (o := .cells [.int .i64 (c0 : Int)]) hcb.1 hcb.2)
     exact ⟨by rw [kidS_ne i1 (by rw [h1.cells]; simp) h10cc.symm]; exact h1.cells, by rw [kidS_ne i1 (by rw [h1.map]; simp) h10m.symm]; exact h1.map⟩
    rw [zy7.upd_same] at hs1
    simp -implicitDefEqProofs only [hlt', zy4, hdeep, List.length_map, ev_at (av := Tm.av) eI_29 hx (Tm.av_width x), Tm.av_agg, Tm.av_width, evF, ↓evZ, implies_true, seval, tf_S5_130]
    refine (IH D' (Nat.lt_succ_self _) x c0 _ (by omega) (hcvs x hmem) (hsms x hmem) i2 hsS hs1).mono ?_
    rintro r s2 ⟨cnt', hcnt', rfl, hr⟩
    obtain ⟨e1, i1'⟩ := kidS_beside (o := .cells [.int .i64 (cnt' : Int)]) i1 hWc h10c.symm
    rw [e1, zy7.upd_upd]
    rw [zy7.upd_upd] at i1'
    have hnot : (ts.map (Tm.mapv R)) = l0 ++ (x.mapv R) :: (ts.drop (i + 1)).map (Tm.mapv R) := by rw [← hl0, ← List.map_cons, ← hdr', ← List.map_append, List.take_append_drop]
    by_cases hok : (x.mapv R).flat D' = true ∧ c0 + (x.mapv R).nodes ≤ 120
    · rw [if_pos hok] at hr
      obtain ⟨rfl, rfl⟩ := hr
      have hbo := kidS_c i1'
      simp -implicitDefEqProofs only [zy4, hdeep, List.length_map, ev_at (av := Tm.av) eI_29 hx (Tm.av_width x), Tm.av_agg, Tm.av_width, Tm.av_store, Tm.av_junk, hbo, accV_agg, accV_width, evF, ↓evZ, implies_true, seval, tf_S5_130]
      refine acc_append eI_29 eB_29 eZ_29 rfl rfl (by intro e he; simp only [List.mem_cons, List.not_mem_nil, or_false] at he; subst he; exact ⟨Tm.av_width _, Tm.av_store _⟩) (tm_widths _) i1' (by simp only [hlen', List.length_cons, List.length_nil]; omega) (by simp only [hlen', List.length_cons, List.length_nil]; omega) (fun b' hb' => ?_)
      rw [show l0.map Tm.av ++ [(x.mapv R).av] = ((ts.take (i + 1)).map (Tm.mapv R)).map Tm.av by rw [htk]; simp] at hb' ⊢
      obtain ⟨g1, g2, g3⟩ := kidS_set hb'
      simp only [List.cons_append, List.nil_append] at g1 g3
      have hcc : cnt + 1 + sumL Tm.nodes ((ts.take (i + 1)).map (Tm.mapv R)) = c0 + (x.mapv R).nodes := by rw [htk, sumL_append, sumL, sumL, ← hc0]; omega
      simp -implicitDefEqProofs only [g3, accV_cells, accV_store, Nat.le_refl, g1, hw, zy4, hdeep, List.length_map, ev_at (av := Tm.av) eI_29 hx (Tm.av_width x), Tm.av_agg, Tm.av_width, Tm.av_store, Tm.av_junk, hbo, accV_agg, accV_width, evF, ↓evZ, implies_true, seval, tf_S5_130]
      rw [hcc]
      exact ⟨b', ⟨g2, hok.2, by rw [htk, List.all_append, i3]; simp [hok.1]⟩, zx7.mk (by simp -implicitDefEqProofs only [zy4, hdeep, List.length_map, ev_at (av := Tm.av) eI_29 hx (Tm.av_width x), Tm.av_agg, Tm.av_width, Tm.av_store, Tm.av_junk, hbo, accV_agg, accV_width, evF, ↓evZ, implies_true, seval, tf_S5_130])⟩
    · rw [if_neg hok] at hr
      subst hr
      obtain ⟨e2, i2'⟩ := kidS_beside (x := b8) (o := .cells [.int .i64 0, .int .i64 0, .str ⟨#[]⟩, .fslice []]) i1' (by rw [zy7.upd_ne _ _ hb8.symm, hW8]; simp) h108.symm
      have h8o := kidS_ne i1' (x := b8) (by rw [zy7.upd_ne _ _ hb8.symm, hW8]; simp) h108.symm
      rw [zy7.upd_ne _ _ hb8.symm, hW8] at h8o
      simp -implicitDefEqProofs only [zy4, hdeep, List.length_map, Tm.av_agg, Tm.av_width, Tm.av_store, Tm.av_junk, h8o, Tm.zero, Tm.av_mk, List.map_nil, evF, ↓evZ, implies_true, seval, tf_S5_130]
      rw [e2]
      refine hfail _ cnt' hcnt' (kidS_gone (hWd _ _ _) i2') ?_
      rw [Tm.nodes_mk, Tm.flat_succ, hnot, List.all_append, List.all_cons, sumL_append, sumL]
      rintro ⟨h3, h4⟩
      simp only [Bool.and_eq_true] at h3
      exact hok ⟨h3.2.1, by omega⟩
  · obtain ⟨i1, i2, i3⟩ := hinv
    rw [List.take_length] at i1 i2 i3 ⊢
    have hbo := kidS_c i1
    have hx8 : (W.upd cb (.cells [.int .i64 ((cnt + 1 + sumL Tm.nodes (ts.map (Tm.mapv R)) : Nat) : Int)])) b8 ≠ none := by rw [zy7.upd_ne _ _ hb8.symm, hW8]; simp
    have h8o := kidS_ne i1 (x := b8) hx8 h108.symm
    rw [zy7.upd_ne _ _ hb8.symm, hW8] at h8o
    simp -implicitDefEqProofs only [zy4, hdeep, List.length_map, hge, hbo, h8o, accV_store, evF, ↓evZ, implies_true, seval, tf_S5_130]
    obtain ⟨h5, h6⟩ := kidS_upd (o := .cells [.int .i64 k, .int .i64 n, .str s, accV 4 b ((ts.map (Tm.mapv R)).map Tm.av)]) i1 hx8 h108.symm
    have hsum : cnt + (Tm.mk k n s (ts.map (Tm.mapv R))).nodes = cnt + 1 + sumL Tm.nodes (ts.map (Tm.mapv R)) := by rw [Tm.nodes_mk]; omega
    refine ⟨b, _, _, h5, h6, tm_junk _, ⟨4, tm_widths _⟩, _, ?_, _, Nat.le_succ_of_le i2, rfl, ?_⟩
    · rw [zy7.upd_comm _ _ _ h108]
      exact hWd _ _ _
    · rw [if_pos ⟨by rw [Tm.flat_succ]; exact i3, by rw [hsum]; exact i2⟩, hsum]
      refine ⟨?_, rfl⟩
      simp only [fin_tup, fin_agg, List.map_cons, List.map_nil, fin_int, fin_str, fin_bool, accV_fin, Tm.av_mk]
termination_by D => D
decreasing_by exact hlt
def optR (v : Tm) : AV := if v.flat 30 = true ∧ v.nodes ≤ 120 then .tup [v.av, .bool true] else .tup [Tm.zero.av, .bool false]
abbrev tf_S6_113 := zi tI_3 (zi zI_3 (zi underlying3 (zi tI_4 (zi zI_4 (zi underlying4 (zi tI_56 (zi zI_56 (zi fI_56_0 (zi fI_56_1 (zi fI_56_2 (zi fI_56_3 (zi bI_56 (zi tI_104 (zi zI_104 (zi tI_123 zI_123)))))))))))))))
theorem c_resolve {σ : Sub} {R : Int → Tm} {rk : Int → Nat} {B : Nat} (G : Good σ R rk B) (hcv : AllS Cv σ) (hsm : AllS Sm σ) (c m : Nat) (q : AV) (t : Tm) (hct : Cv t) (hst : Sm t) (st : zy7) (hS : SubAt st c m q σ) :
 zq7 prog 113 [.ptr c 0, t.av] st (fun r st' => r = optR (t.mapv R) ∧ st' = st) := by
 refine zq7.done ?_
 refine wF [1000000, 6] 2 func113 ntmps113 rfl rfl ?_
 intro _
 simp -implicitDefEqProofs only [zy4, evF, ↓evZ, implies_true, seval, tf_S6_113]
 intro b4 h4 b6 h6
 have hne : b6 ≠ b4 := by rintro rfl; rw [zy7.upd_same] at h6; cases h6
 have hn6 : st b6 = none := by rw [zy7.upd_ne st _ hne] at h6; exact h6
 have hS' : ∀ o o', SubAt ((st.upd b4 o).upd b6 o') c m q σ := fun o o' => (hS.upd h4).upd (by rw [zy7.upd_ne _ _ hne]; exact hn6)
 obtain ⟨h6c, h6m⟩ := hS.ne hn6
 have hc := c_resolving G hcv hsm c m b6 q ⟨h6c, h6m⟩ 30 t 0 _ (by omega) hct hst (by omega) (hS' (.cells [.int .i64 0, .int .i64 0, .str ⟨#[]⟩, .fslice []]) (.cells [.int .i64 0])) (zy7.upd_same _ _ _)
 rw [show (31 - ((30 : Nat) : Int)) = 1 from rfl] at hc
 refine hc.mono ?_
 rintro r s2 ⟨cnt', _, rfl, hr⟩
 unfold optR
 rw [Nat.zero_add] at hr
 split at hr
 · rename_i hok
   obtain ⟨rfl, _⟩ := hr
   rw [if_pos hok]
   simp -implicitDefEqProofs only [Tm.av_cells, Tm.av_store, Tm.av_agg, Tm.av_width, zy4, hne, hne.symm, evF, ↓evZ, implies_true, seval, tf_S6_113]
   exact ⟨by simp only [soft_agg, soft_tup, soft_int, soft_bool, soft_str, soft_slice, soft_fslice, soft_ptr, soft_pptr, soft_map, soft_mslice, Tm.soft, List.map_cons, List.map_nil], (((Drops.refl _).upd h4).upd hn6).upd h4⟩
 · rename_i hok
   subst hr
   rw [if_neg hok]
   simp -implicitDefEqProofs only [Tm.zero, Tm.av_mk, List.map_nil, zy4, hne, hne.symm, evF, ↓evZ, implies_true, seval, tf_S6_113]
   exact ⟨by simp only [soft_agg, soft_tup, soft_int, soft_bool, soft_str, soft_slice, soft_fslice, soft_ptr, soft_pptr, soft_map, soft_mslice, Tm.soft, List.map_cons, List.map_nil], (((Drops.refl _).upd h4).upd hn6).upd h4⟩
abbrev tf_S6_98 := zi tI_123 (zi zI_123 (zi tI_142 (zi zI_142 (zi underlying142 (zi tI_144 (zi zI_144 (zi fI_144_0 (zi fI_144_1 bI_144))))))))
theorem c_newStore (st : zy7) : zq7 prog 98 [] st (fun r st' => ∃ c m, r = .ptr c 0 ∧ Sto st' c m (.fslice []) Sub.none [] ∧ StepQ c m st (.fslice []) st' (.fslice []) ∧ st c = none ∧ st m = none) := by
 refine wF [1000000, 3] 0 func98 ntmps98 rfl rfl ?_
 intro _
 simp -implicitDefEqProofs only [zy4, evF, ↓evZ, implies_true, seval, tf_S6_98]
 intro m hm c hc
 have hne : c ≠ m := by rintro rfl; rw [zy7.upd_same] at hc; cases hc
 have hnc : st c = none := by rw [zy7.upd_ne st _ hne] at hc; exact hc
 refine ⟨c, m, rfl, ⟨⟨zy7.upd_same _ _ _, by rw [zy7.upd_ne _ _ hne.symm, zy7.upd_same]; rfl⟩, .inl ⟨rfl, rfl⟩, by simp [tbk]⟩, ⟨fun x o h h1 h2 _ => by rw [zy7.upd_ne _ _ h1, zy7.upd_ne _ _ h2]; exact h, by simp [tbk]⟩, hnc, hm⟩
theorem SubAt.acc {st : zy7} {c m b : Nat} {q : AV} {σ : Sub} {l : List AV} (h : SubAt st c m q σ) (hb : l ≠ [] → st b = none) : SubAt (accS st b l) c m q σ := by
 cases l with
 | nil => exact h
 | cons x l => exact h.upd (hb (by simp))
abbrev tf_Ts2_15 := zi tI_3 (zi zI_3 (zi underlying3 (zi tI_23 (zi zI_23 (zi eI_23 (zi eB_23 (zi eZ_23 (zi underlying23 (zi tI_29 (zi zI_29 (zi eI_29 (zi eB_29 (zi eZ_29 (zi underlying29 (zi tI_50 (zi zI_50 (zi fI_50_0 (zi fI_50_1 (zi fI_50_2 (zi fI_50_3 (zi bI_50 (zi tI_56 (zi zI_56 (zi fI_56_0 (zi fI_56_1 (zi fI_56_2 (zi fI_56_3 bI_56)))))))))))))))))))))))))))
abbrev tf_Ts2_149 := zi tI_3 (zi zI_3 (zi underlying3 (zi tI_4 (zi zI_4 (zi underlying4 (zi tI_29 (zi zI_29 (zi eI_29 (zi eB_29 (zi eZ_29 (zi underlying29 (zi tI_56 (zi zI_56 (zi fI_56_0 (zi fI_56_1 (zi fI_56_2 (zi fI_56_3 bI_56)))))))))))))))))
theorem c_EqualFuncTerm (l l' : List Tm) (g : FuncId) (st : zy7) (hc : ∀ x ∈ l, ∀ (y : Tm) (st : zy7), zq7 prog g [Tm.av x, Tm.av y] st (fun r st' => r = .bool (Tm.same x y) ∧ st' = st)) :
 zq7 prog 149 [.slice (l.map Tm.av), .slice (l'.map Tm.av), .func g []] st (fun r st' => r = .bool (eqL Tm.same l l') ∧ st' = st) := by
 refine wF [1000000] 3 func149 ntmps149 rfl rfl ?_
 simp only [fitsL, AV.fits, and_true, List.length_map]
 intro ⟨⟨hl, _⟩, ⟨hl', _⟩⟩
 simp -implicitDefEqProofs only [List.length_map, Tm.av_agg, Tm.av_width, Tm.av_store, Tm.av_junk, evF, ↓evZ, implies_true, seval, tf_Ts2_149]
 refine ⟨fun h4 => ?_, fun h4 => ?_⟩
 · simp -implicitDefEqProofs only [List.length_map, Tm.av_agg, Tm.av_width, Tm.av_store, Tm.av_junk, evF, ↓evZ, implies_true, seval, tf_Ts2_149]
   simp only [Bool.not_eq_true', decide_eq_false_iff_not] at h4
   rw [eqL_len _ (show l.length ≠ l'.length by omega)]
 simp only [Bool.not_eq_false', decide_eq_true_eq] at h4
 have h4' : l.length = l'.length := by omega
 simp -implicitDefEqProofs only [List.length_map, Tm.av_agg, Tm.av_width, Tm.av_store, Tm.av_junk, evF, ↓evZ, implies_true, seval, tf_Ts2_149]
 refine zy5 (σ := Unit) [1000000] [1, 2, 15, 16] l (fun i _ => ∀ (j : Nat) (x y : Tm), j < i → l[j]? = some x → l'[j]? = some y → Tm.same x y = true) (fun i _ => [(17, .int .i64 i)]) (fun _ _ => st) (by decide +kernel) ⟨(), by intro j x y h; omega, zx7.mk (by simp -implicitDefEqProofs only [List.length_map, Tm.av_agg, Tm.av_width, Tm.av_store, Tm.av_junk, evF, ↓evZ, implies_true, seval, tf_Ts2_149])⟩ (fun i x _ hx hlt hlt' hdr hall => ?_) (fun _ hge hall => ?_)
 case refine_2 =>
  simp -implicitDefEqProofs only [hge, List.length_map, Tm.av_agg, Tm.av_width, Tm.av_store, Tm.av_junk, evF, ↓evZ, implies_true, seval, tf_Ts2_149]
  rw [eqL_all _ h4' (fun j x y h6 h7 => hall j x y (by have := (List.getElem?_eq_some_iff.1 h6).1; omega) h6 h7)]
 obtain ⟨y, hy⟩ : ∃ y, l'[i]? = some y := ⟨_, List.getElem?_eq_getElem (h4' ▸ hlt)⟩
 have hw := wrap64 (n := (i : Int) + 1) (by omega) (by omega)
 simp -implicitDefEqProofs only [hlt', List.length_map, Tm.av_agg, Tm.av_width, Tm.av_store, Tm.av_junk, ev_at (av := Tm.av) eI_29 hx (Tm.av_width x), ev_at (av := Tm.av) eI_29 hy (Tm.av_width y), evF, ↓evZ, implies_true, seval, tf_Ts2_149]
 refine (hc x (List.mem_of_getElem? hx) y _).to ?_
 simp -implicitDefEqProofs only [List.length_map, Tm.av_agg, Tm.av_width, Tm.av_store, Tm.av_junk, ev_at (av := Tm.av) eI_29 hx (Tm.av_width x), ev_at (av := Tm.av) eI_29 hy (Tm.av_width y), evF, ↓evZ, implies_true, seval, tf_Ts2_149]
 refine ⟨fun h6 => ?_, fun h6 => ?_⟩
 · simp -implicitDefEqProofs only [List.length_map, Tm.av_agg, Tm.av_width, Tm.av_store, Tm.av_junk, ev_at (av := Tm.av) eI_29 hx (Tm.av_width x), ev_at (av := Tm.av) eI_29 hy (Tm.av_width y), evF, ↓evZ, implies_true, seval, tf_Ts2_149]
   have h7 : Tm.same x y = false := by simpa using h6
   rw [eqL_at _ i x y hx hy h7]
 have h7 : Tm.same x y = true := by simpa using h6
 simp -implicitDefEqProofs only [List.length_map, Tm.av_agg, Tm.av_width, Tm.av_store, Tm.av_junk, ev_at (av := Tm.av) eI_29 hx (Tm.av_width x), ev_at (av := Tm.av) eI_29 hy (Tm.av_width y), evF, ↓evZ, implies_true, seval, tf_Ts2_149]
 refine ⟨(), fun j u v hj hu hv => ?_, zx7.mk (by simp -implicitDefEqProofs only [hw, List.length_map, Tm.av_agg, Tm.av_width, Tm.av_store, Tm.av_junk, ev_at (av := Tm.av) eI_29 hx (Tm.av_width x), ev_at (av := Tm.av) eI_29 hy (Tm.av_width y), evF, ↓evZ, implies_true, seval, tf_Ts2_149])⟩
 rcases Nat.lt_or_ge j i with h8 | h8
 · exact hall j u v h8 hu hv
 · obtain rfl : j = i := by omega
   rw [hx] at hu; rw [hy] at hv; cases hu; cases hv; exact h7
abbrev tf_Ts2_28 := zi tI_3 (zi zI_3 (zi underlying3 (zi tI_9 (zi zI_9 (zi underlying9 (zi tI_23 (zi zI_23 (zi eI_23 (zi eB_23 (zi eZ_23 (zi underlying23 (zi tI_29 (zi zI_29 (zi eI_29 (zi eB_29 (zi eZ_29 (zi underlying29 (zi tI_50 (zi zI_50 (zi fI_50_0 (zi fI_50_1 (zi fI_50_2 (zi fI_50_3 (zi bI_50 (zi tI_56 (zi zI_56 (zi fI_56_0 (zi fI_56_1 (zi fI_56_2 (zi fI_56_3 bI_56))))))))))))))))))))))))))))))
abbrev tf_Ts2_135 := zi tI_3 (zi zI_3 (zi underlying3 (zi tI_4 (zi zI_4 (zi underlying4 (zi tI_9 (zi zI_9 (zi underlying9 (zi tI_29 (zi zI_29 (zi eI_29 (zi eB_29 (zi eZ_29 (zi underlying29 (zi tI_56 (zi zI_56 (zi fI_56_0 (zi fI_56_1 (zi fI_56_2 (zi fI_56_3 bI_56))))))))))))))))))))
theorem c_impl_TermSame : ∀ (a b : Tm) (st : zy7), zq7 prog 135 [a.av, b.av] st (fun r st' => r = .bool (a.same b) ∧ st' = st)
 | .mk k n s ts, .mk k' n' s' ts', st => by
  have hc := c_EqualFuncTerm ts ts' 135 st fun x hx y st => c_impl_TermSame x y st
  refine wF [] 2 func135 ntmps135 rfl rfl ?_
  intro _
  simp only [Tm.av_mk, Tm.same_mk]
  simp -implicitDefEqProofs only [evF, ↓evZ, implies_true, seval, tf_Ts2_135]
  refine zx4 (fun h1 => ?_) (fun h1 => ?_)
  case refine_2 =>
   simp -implicitDefEqProofs only [h1, evF, ↓evZ, implies_true, seval, tf_Ts2_135]
   simp at h1
   simp [h1]
  simp -implicitDefEqProofs only [h1, evF, ↓evZ, implies_true, seval, tf_Ts2_135]
  refine zx4 (fun h2 => ?_) (fun h2 => ?_)
  case refine_2 =>
   simp -implicitDefEqProofs only [h1, h2, evF, ↓evZ, implies_true, seval, tf_Ts2_135]
   simp at h2
   simp [h2]
  simp -implicitDefEqProofs only [h1, h2, evF, ↓evZ, implies_true, seval, tf_Ts2_135]
  refine zx4 (fun h3 => ?_) (fun h3 => ?_)
  case refine_2 =>
   simp -implicitDefEqProofs only [h1, h2, h3, evF, ↓evZ, implies_true, seval, tf_Ts2_135]
   simp at h3
   simp [h3]
  simp -implicitDefEqProofs only [h1, h2, h3, evF, ↓evZ, implies_true, seval, tf_Ts2_135]
  refine hc.to ?_
  simp -implicitDefEqProofs only [h1, h2, h3, evF, ↓evZ, implies_true, seval, tf_Ts2_135]
termination_by a => SizeOf.sizeOf a
decreasing_by have := List.sizeOf_lt_of_mem hx; simp only [Tm.mk.sizeOf_spec]; omega
abbrev tf_Ts2_85 := zi tI_3 (zi zI_3 (zi underlying3 (zi tI_4 (zi zI_4 (zi underlying4 (zi tI_9 (zi zI_9 (zi underlying9 (zi tI_29 (zi zI_29 (zi eI_29 (zi eB_29 (zi eZ_29 (zi underlying29 (zi tI_56 (zi zI_56 (zi fI_56_0 (zi fI_56_1 (zi fI_56_2 (zi fI_56_3 bI_56))))))))))))))))))))
theorem c_spec_TermSame : ∀ (a b : Tm) (st : zy7), zq7 prog 85 [a.av, b.av] st (fun r st' => r = .bool (a.same b) ∧ st' = st)
 | .mk k n s ts, .mk k' n' s' ts', st => by
  have hc := fun (x : Tm) (hx : x ∈ ts) y st => c_spec_TermSame x y st
  refine wF [] 2 func85 ntmps85 rfl rfl ?_
  simp only [Tm.av_mk, fitsL, AV.fits, and_true, List.length_map, Tm.same_mk]
  intro ⟨⟨_, _, _, hl, _⟩, ⟨_, _, _, hl', _⟩⟩
  simp -implicitDefEqProofs only [evF, ↓evZ, implies_true, seval, tf_Ts2_85]
  refine zx4 (fun h1 => ?_) (fun h1 => ?_)
  case refine_2 =>
   simp -implicitDefEqProofs only [h1, evF, ↓evZ, implies_true, seval, tf_Ts2_85]
   simp at h1
   simp [h1]
  simp -implicitDefEqProofs only [h1, evF, ↓evZ, implies_true, seval, tf_Ts2_85]
  refine zx4 (fun h2 => ?_) (fun h2 => ?_)
  case refine_2 =>
   simp -implicitDefEqProofs only [h1, h2, evF, ↓evZ, implies_true, seval, tf_Ts2_85]
   simp at h2
   simp [h2]
  simp -implicitDefEqProofs only [h1, h2, evF, ↓evZ, implies_true, seval, tf_Ts2_85]
  refine zx4 (fun h3 => ?_) (fun h3 => ?_)
  case refine_2 =>
   simp -implicitDefEqProofs only [h1, h2, h3, evF, ↓evZ, implies_true, seval, tf_Ts2_85]
   simp at h3
   simp [h3]
  simp -implicitDefEqProofs only [h1, h2, h3, List.length_map, evF, ↓evZ, implies_true, seval, tf_Ts2_85]
  refine ⟨fun h4 => ?_, fun h4 => ?_⟩
  · simp -implicitDefEqProofs only [evF, ↓evZ, implies_true, seval, tf_Ts2_85]
    simp only [Bool.not_eq_true', decide_eq_false_iff_not] at h4
    rw [eqL_len _ (show ts.length ≠ ts'.length by omega)]
    simp
  simp -implicitDefEqProofs only [evF, ↓evZ, implies_true, seval, tf_Ts2_85]
  simp only [Bool.not_eq_false', decide_eq_true_eq] at h1 h2 h3 h4
  have h4' : ts.length = ts'.length := by omega
  subst h1 h2 h3
  simp only [decide_true, Bool.true_and]
  refine zy6 (α := Nat) [] (fun i => i ≤ ts.length ∧ ∀ (j : Nat) (x y : Tm), j < i → ts[j]? = some x → ts'[j]? = some y → Tm.same x y = true)
   (fun i => [(2, .pptr (.agg [.int .i64 k, .int .i64 n, .str s, .slice (ts.map Tm.av)])), (3, .pptr (.agg [.int .i64 k, .int .i64 n, .str s, .slice (ts'.map Tm.av)])), (5, .int .i64 i)]) (fun _ => st) (fun i => ts.length - i) (by decide +kernel)
   ⟨0, ⟨by omega, by intro j x y h; omega⟩, zx7.mk (by simp -implicitDefEqProofs only [evF, ↓evZ, implies_true, seval, tf_Ts2_85])⟩ ?_
  intro i ⟨hi, hall⟩
  simp -implicitDefEqProofs only [List.length_map, evF, ↓evZ, implies_true, seval, tf_Ts2_85]
  refine ⟨fun h5 => ?_, fun h5 => ?_⟩
  case refine_2 =>
   simp -implicitDefEqProofs only [evF, ↓evZ, implies_true, seval, tf_Ts2_85]
   simp only [decide_eq_false_iff_not, Int.ofNat_lt] at h5
   rw [eqL_all _ h4' (fun j x y h6 h7 => hall j x y (by have := (List.getElem?_eq_some_iff.1 h6).1; omega) h6 h7)]
  simp only [decide_eq_true_eq, Int.ofNat_lt] at h5
  obtain ⟨x, hx⟩ : ∃ x, ts[i]? = some x := ⟨_, List.getElem?_eq_getElem h5⟩
  obtain ⟨y, hy⟩ : ∃ y, ts'[i]? = some y := ⟨_, List.getElem?_eq_getElem (h4' ▸ h5)⟩
  simp -implicitDefEqProofs only [evF, ↓evZ, implies_true, seval, tf_Ts2_85]
  refine arun_drawP mixed (by decide +kernel) (by decide +kernel) ?_
  simp -implicitDefEqProofs only [ev_at (av := Tm.av) eI_29 hx (Tm.av_width x), ev_at (av := Tm.av) eI_29 hy (Tm.av_width y), Tm.av_agg, Tm.av_width, evF, ↓evZ, implies_true, seval, tf_Ts2_85]
  refine (hc x (List.mem_of_getElem? hx) y st).to ?_
  simp -implicitDefEqProofs only [evF, ↓evZ, implies_true, seval, tf_Ts2_85]
  refine ⟨fun h6 => ?_, fun h6 => ?_⟩
  · simp -implicitDefEqProofs only [evF, ↓evZ, implies_true, seval, tf_Ts2_85]
    have h7 : Tm.same x y = false := by simpa using h6
    rw [eqL_at _ i x y hx hy h7]
  have h7 : Tm.same x y = true := by simpa using h6
  simp -implicitDefEqProofs only [evF, ↓evZ, implies_true, seval, tf_Ts2_85]
  refine ⟨i + 1, by omega, ⟨by omega, fun j u v hj hu hv => ?_⟩, zx7.mk ?_⟩
  · rcases Nat.lt_or_ge j i with h8 | h8
    · exact hall j u v h8 hu hv
    · obtain rfl : j = i := by omega
      rw [hx] at hu; rw [hy] at hv; cases hu; cases hv; exact h7
  · have := wrap64 (n := (i : Int) + 1) (by omega) (by omega)
    simp -implicitDefEqProofs only [this, evF, ↓evZ, implies_true, seval, tf_Ts2_85]
termination_by a => SizeOf.sizeOf a
decreasing_by have := List.sizeOf_lt_of_mem hx; simp only [Tm.mk.sizeOf_spec]; omega
abbrev tf_B4_133 := zi tI_3 (zi zI_3 (zi underlying3 (zi tI_4 (zi zI_4 underlying4))))
theorem c_holds (b : Bool) (st : zy7) : zq7 prog 133 [.bool b] st (fun r st' => r = .int .i64 (codeB b) ∧ st' = st) := by
 refine wF [1000000] 1 func133 ntmps133 rfl rfl ?_
 intro _
 simp -implicitDefEqProofs only [evF, ↓evZ, implies_true, seval, tf_B4_133]
 cases b
 · simp -implicitDefEqProofs only [codeB, evF, ↓evZ, implies_true, seval, tf_B4_133]
 · simp -implicitDefEqProofs only [codeB, evF, ↓evZ, implies_true, seval, tf_B4_133]
abbrev tf_B4_137 := zi tI_2 (zi zI_2 (zi underlying2 (zi tI_3 (zi zI_3 (zi underlying3 (zi tI_56 (zi zI_56 (zi fI_56_0 (zi fI_56_1 (zi fI_56_2 (zi fI_56_3 bI_56)))))))))))
theorem c_number (n : Int) (st : zy7) : zq7 prog 137 [.int .i64 n] st (fun r st' => r = (itm n).av ∧ st' = st) := by
 refine zq7.done ?_
 refine wF [1000000] 1 func137 ntmps137 rfl rfl ?_
 intro _
 simp -implicitDefEqProofs only [zy4, evF, ↓evZ, implies_true, seval, tf_B4_137]
 intro b hb
 unfold itm
 exact ⟨by simp only [Tm.av_mk, soft_agg, soft_tup, soft_int, soft_bool, soft_str, soft_slice, soft_fslice, soft_ptr, soft_pptr, soft_map, soft_mslice, Tm.soft, List.map_cons, List.map_nil, List.map_nil], (Drops.refl _).upd hb⟩
abbrev tf_B4_131 := zi tI_3 (zi zI_3 (zi underlying3 (zi tI_4 (zi zI_4 (zi underlying4 (zi tI_9 (zi zI_9 (zi underlying9 (zi tI_29 (zi zI_29 (zi eI_29 (zi eB_29 (zi eZ_29 (zi underlying29 (zi tI_56 (zi zI_56 (zi fI_56_0 (zi fI_56_1 (zi fI_56_2 (zi fI_56_3 (zi bI_56 (zi tI_140 (zi zI_140 (zi eI_140 (zi eB_140 (zi eZ_140 underlying140))))))))))))))))))))))))))
theorem c_compares (k n : Int) (s : ByteArray) (ts : List Tm) (st : zy7) : zq7 prog 131 [(Tm.mk k n s ts).av] st (fun r st' => r = .bool (decide (k = 3) && decide ((ts.length : Int) = 2) && inN cmpNames s) ∧ st' = st) := by
 simp only [Tm.av_mk]
 refine wF [1000000] 1 func131 ntmps131 rfl rfl ?_
 intro _
 simp -implicitDefEqProofs only [List.length_map, evF, ↓evZ, implies_true, seval, tf_B4_131]
 refine zx4 (fun h => ?_) (fun h => ?_)
 · simp -implicitDefEqProofs only [h, List.length_map, evF, ↓evZ, implies_true, seval, tf_B4_131]
   refine zx4 (fun h2 => ?_) (fun h2 => ?_)
   · simp -implicitDefEqProofs only [h2, List.length_map, evF, ↓evZ, implies_true, seval, tf_B4_131]
     refine (c_ContainsS' cmpNames s _).to ?_
     simp -implicitDefEqProofs only [h, h2, List.length_map, evF, ↓evZ, implies_true, seval, tf_B4_131]
     simp [h, h2, inN]
   · simp -implicitDefEqProofs only [h2, List.length_map, evF, ↓evZ, implies_true, seval, tf_B4_131]
     simp [h, h2]
 · simp -implicitDefEqProofs only [h, List.length_map, evF, ↓evZ, implies_true, seval, tf_B4_131]
   simp [h]
abbrev tf_B4_132 := zi tI_3 (zi zI_3 (zi underlying3 (zi tI_4 (zi zI_4 (zi underlying4 (zi tI_9 (zi zI_9 (zi underlying9 (zi tI_29 (zi zI_29 (zi eI_29 (zi eB_29 (zi eZ_29 (zi underlying29 (zi tI_56 (zi zI_56 (zi fI_56_0 (zi fI_56_1 (zi fI_56_2 (zi fI_56_3 bI_56))))))))))))))))))))
theorem c_compared (n : Int) (s : ByteArray) (x y : Tm) (hs : inN cmpNames s = true) {N : Int} (hx : OkV N x) (hy : OkV N y) (st : zy7) : zq7 prog 132 [(Tm.mk 3 n s [x, y]).av] st (fun r st' => r = .int .i64 (cmpC s x y) ∧ st' = st) := by
 have hat0 : aIndexAddr prog 29 (.slice [x.av, y.av]) (.int .i64 0) = some (.pptr x.av) := ev_at (av := Tm.av) (l := [x, y]) (i := 0) eI_29 rfl (Tm.av_width x)
 have hat1 : aIndexAddr prog 29 (.slice [x.av, y.av]) (.int .i64 1) = some (.pptr y.av) := ev_at (av := Tm.av) (l := [x, y]) (i := 1) eI_29 rfl (Tm.av_width y)
 have hax := fun st => c_arith x st hx
 have hay := fun st => c_arith y st hy
 unfold cmpC both
 simp only [Tm.av_mk, List.map_cons, List.map_nil]
 refine wF [1000000] 1 func132 ntmps132 rfl rfl ?_
 intro _
 simp -implicitDefEqProofs only [hat0, hat1, Tm.av_agg, Tm.av_width, evF, ↓evZ, implies_true, seval, tf_B4_132]
 refine (hax _).to ?_
 generalize x.ev.1 = a at *
 generalize x.ev.2 = ca at *
 generalize y.ev.1 = b at *
 generalize y.ev.2 = cb at *
 simp -implicitDefEqProofs only [hat0, hat1, Tm.av_agg, Tm.av_width, evF, ↓evZ, implies_true, seval, tf_B4_132]
 refine zq4 (fun h4 => ?_) (fun h4 => ?_)
 · simp -implicitDefEqProofs only [hat0, hat1, Tm.av_agg, Tm.av_width, evF, ↓evZ, implies_true, seval, tf_B4_132]
   have h4' : ca ≠ 0 := by simpa using h4
   rw [if_pos h4']
 have h4' : ca = 0 := by simpa using h4
 subst h4'
 rw [if_neg (by simp)]
 simp -implicitDefEqProofs only [hat0, hat1, Tm.av_agg, Tm.av_width, evF, ↓evZ, implies_true, seval, tf_B4_132]
 refine (hay _).to ?_
 simp -implicitDefEqProofs only [hat0, hat1, Tm.av_agg, Tm.av_width, evF, ↓evZ, implies_true, seval, tf_B4_132]
 refine zq4 (fun h5 => ?_) (fun h5 => ?_)
 · simp -implicitDefEqProofs only [hat0, hat1, Tm.av_agg, Tm.av_width, evF, ↓evZ, implies_true, seval, tf_B4_132]
   have h5' : cb ≠ 0 := by simpa using h5
   rw [if_pos h5']
 have h5' : cb = 0 := by simpa using h5
 subst h5'
 rw [if_neg (by simp)]
 unfold cmpH
 simp -implicitDefEqProofs only [hat0, hat1, Tm.av_agg, Tm.av_width, evF, ↓evZ, implies_true, seval, tf_B4_132]
 refine zq4 (fun h6 => ?_) (fun h6 => ?_)
 · simp -implicitDefEqProofs only [hat0, hat1, Tm.av_agg, Tm.av_width, evF, ↓evZ, implies_true, seval, tf_B4_132]
   rw [if_pos (by simpa using h6)]
   refine (c_holds _ _).to ?_
   simp -implicitDefEqProofs only [hat0, hat1, Tm.av_agg, Tm.av_width, evF, ↓evZ, implies_true, seval, tf_B4_132]
 rw [if_neg (by simpa using h6)]
 simp -implicitDefEqProofs only [hat0, hat1, Tm.av_agg, Tm.av_width, evF, ↓evZ, implies_true, seval, tf_B4_132]
 refine zq4 (fun h7 => ?_) (fun h7 => ?_)
 · simp -implicitDefEqProofs only [hat0, hat1, Tm.av_agg, Tm.av_width, evF, ↓evZ, implies_true, seval, tf_B4_132]
   rw [if_pos (by simpa using h7)]
   refine (c_holds _ _).to ?_
   simp -implicitDefEqProofs only [hat0, hat1, Tm.av_agg, Tm.av_width, evF, ↓evZ, implies_true, seval, tf_B4_132]
 rw [if_neg (by simpa using h7)]
 simp -implicitDefEqProofs only [hat0, hat1, Tm.av_agg, Tm.av_width, evF, ↓evZ, implies_true, seval, tf_B4_132]
 refine zq4 (fun h8 => ?_) (fun h8 => ?_)
 · simp -implicitDefEqProofs only [hat0, hat1, Tm.av_agg, Tm.av_width, evF, ↓evZ, implies_true, seval, tf_B4_132]
   rw [if_pos (by simpa using h8)]
   refine (c_holds _ _).to ?_
   simp -implicitDefEqProofs only [hat0, hat1, Tm.av_agg, Tm.av_width, evF, ↓evZ, implies_true, seval, tf_B4_132]
 rw [if_neg (by simpa using h8)]
 simp -implicitDefEqProofs only [hat0, hat1, Tm.av_agg, Tm.av_width, evF, ↓evZ, implies_true, seval, tf_B4_132]
 refine zq4 (fun h9 => ?_) (fun h9 => ?_)
 · simp -implicitDefEqProofs only [hat0, hat1, Tm.av_agg, Tm.av_width, evF, ↓evZ, implies_true, seval, tf_B4_132]
   rw [if_pos (by simpa using h9)]
   refine (c_holds _ _).to ?_
   simp -implicitDefEqProofs only [hat0, hat1, Tm.av_agg, Tm.av_width, evF, ↓evZ, implies_true, seval, tf_B4_132]
 rw [if_neg (by simpa using h9)]
 simp -implicitDefEqProofs only [hat0, hat1, Tm.av_agg, Tm.av_width, evF, ↓evZ, implies_true, seval, tf_B4_132]
 refine (c_holds _ _).to ?_
 simp -implicitDefEqProofs only [hat0, hat1, Tm.av_agg, Tm.av_width, evF, ↓evZ, implies_true, seval, tf_B4_132]
theorem kids0 {ts : List Tm} (h : ts.length = 0) : ts = [] := List.eq_nil_of_length_eq_zero h
theorem kids1 {ts : List Tm} (h : ts.length = 1) : ∃ x, ts = [x] := by
 match ts, h with
 | [x], _ => exact ⟨x, rfl⟩
theorem kids2 {ts : List Tm} (h : ts.length = 2) : ∃ x y, ts = [x, y] := by
 match ts, h with
 | [x, y], _ => exact ⟨x, y, rfl⟩
theorem kids3 {ts : List Tm} (h : ts.length = 3) : ∃ x y z, ts = [x, y, z] := by
 match ts, h with
 | [x, y, z], _ => exact ⟨x, y, z, rfl⟩
theorem wk_wk {σ : Sub} {f : Nat} {t u : Tm} (h : WkN σ f t u) : wk σ u = u := (WkN.stop h.end).wk
end Go.AW
namespace Go.AW

end Go.AW
namespace Go.AW
open Go.Proofs.Tryz
theorem sumL_take_le' {α : Type} (f : α → Nat) (l : List α) (i : Nat) : sumL f (l.take i) ≤ sumL f l := by
 have := sumL_append f (l.take i) (l.drop i)
 rw [List.take_append_drop] at this
 omega
def Full (v : Tm) (room : Nat) (st : zy7) (r : AV) (st' : zy7) : Prop :=
 st' = st ∧ ∃ (x : Tm) (left : Int), r = .tup [x.av, .int .i64 left] ∧ -1 ≤ left ∧ if v.nodes ≤ room then x = v ∧ left = (room : Int) - v.nodes else left < 0
abbrev Bt := Fin 256
abbrev tf_D2_60 := zi tI_3 (zi zI_3 (zi underlying3 (zi tI_56 (zi zI_56 (zi fI_56_0 (zi fI_56_1 (zi fI_56_2 (zi fI_56_3 bI_56))))))))
theorem c_l1Var (n : Int) (st : zy7) : zq7 prog 60 [.int .i64 n] st (fun r st' => r = (vr n).av ∧ st' = st) := by
 refine zq7.done ?_
 refine wF [1000000] 1 func60 ntmps60 rfl rfl ?_
 intro _
 simp -implicitDefEqProofs only [zy4, evF, ↓evZ, implies_true, seval, tf_D2_60]
 intro b hb
 exact ⟨by simp only [vr, Tm.av_mk, soft_agg, soft_tup, soft_int, soft_bool, soft_str, soft_slice, soft_fslice, soft_ptr, soft_pptr, soft_map, soft_mslice, Tm.soft, List.map_cons, List.map_nil], (Drops.refl _).upd hb⟩
abbrev tf_D2_87 := zi tI_2 (zi zI_2 (zi underlying2 (zi tI_3 (zi zI_3 (zi underlying3 (zi tI_56 (zi zI_56 (zi fI_56_0 (zi fI_56_1 (zi fI_56_2 (zi fI_56_3 bI_56)))))))))))
theorem c_l1Int (n : Int) (st : zy7) : zq7 prog 87 [.int .i64 n] st (fun r st' => r = (Tm.mk 2 n ⟨#[]⟩ []).av ∧ st' = st) := by
 refine zq7.done ?_
 refine wF [1000000] 1 func87 ntmps87 rfl rfl ?_
 intro _
 simp -implicitDefEqProofs only [zy4, evF, ↓evZ, implies_true, seval, tf_D2_87]
 intro b hb
 exact ⟨by simp only [vr, Tm.av_mk, soft_agg, soft_tup, soft_int, soft_bool, soft_str, soft_slice, soft_fslice, soft_ptr, soft_pptr, soft_map, soft_mslice, Tm.soft, List.map_cons, List.map_nil], (Drops.refl _).upd hb⟩
abbrev tf_B6_83 := zi tI_3 (zi zI_3 (zi underlying3 (zi tI_4 (zi zI_4 underlying4))))
theorem c_l5Code (b : Bool) (st : zy7) : zq7 prog 83 [.bool b] st (fun r st' => r = .int .i64 (codeB b) ∧ st' = st) := by
 refine wF [1000000] 1 func83 ntmps83 rfl rfl ?_
 intro _
 simp -implicitDefEqProofs only [evF, ↓evZ, implies_true, seval, tf_B6_83]
 cases b
 · simp -implicitDefEqProofs only [codeB, evF, ↓evZ, implies_true, seval, tf_B6_83]
 · simp -implicitDefEqProofs only [codeB, evF, ↓evZ, implies_true, seval, tf_B6_83]
abbrev tf_B6_89 := zi tI_4 (zi zI_4 (zi underlying4 (zi tI_9 (zi zI_9 underlying9))))
theorem c_l5Compares (s : ByteArray) (st : zy7) : zq7 prog 89 [.str s] st (fun r st' => r = .bool (inN cmpNames s) ∧ st' = st) := by
 have hin : inN cmpNames s = (decide (s = ⟨#[60]⟩) || (decide (s = ⟨#[62]⟩) || (decide (s = ⟨#[61, 60]⟩) || (decide (s = ⟨#[62, 61]⟩) || decide (s = ⟨#[61, 58, 61]⟩))))) := by
  simp only [inN, cmpNames, List.any_cons, List.any_nil, Bool.or_false]
 rw [hin]
 refine wF [1000000] 1 func89 ntmps89 rfl rfl ?_
 intro _
 simp -implicitDefEqProofs only [evF, ↓evZ, implies_true, seval, tf_B6_89]
 refine zx4 (fun h1 => ?_) (fun h1 => ?_)
 case refine_2 =>
  simp -implicitDefEqProofs only [h1, evF, ↓evZ, implies_true, seval, tf_B6_89]
  simp at h1; simp [h1]
 simp -implicitDefEqProofs only [h1, evF, ↓evZ, implies_true, seval, tf_B6_89]
 refine zx4 (fun h2 => ?_) (fun h2 => ?_)
 case refine_2 =>
  simp -implicitDefEqProofs only [h2, evF, ↓evZ, implies_true, seval, tf_B6_89]
  simp at h2; simp [h2]
 simp -implicitDefEqProofs only [h2, evF, ↓evZ, implies_true, seval, tf_B6_89]
 refine zx4 (fun h3 => ?_) (fun h3 => ?_)
 case refine_2 =>
  simp -implicitDefEqProofs only [h3, evF, ↓evZ, implies_true, seval, tf_B6_89]
  simp at h3; simp [h3]
 simp -implicitDefEqProofs only [h3, evF, ↓evZ, implies_true, seval, tf_B6_89]
 refine zx4 (fun h4 => ?_) (fun h4 => ?_)
 case refine_2 =>
  simp -implicitDefEqProofs only [h4, evF, ↓evZ, implies_true, seval, tf_B6_89]
  simp at h4; simp [h4]
 simp -implicitDefEqProofs only [h4, evF, ↓evZ, implies_true, seval, tf_B6_89]
abbrev tf_B6_109 := zi tI_3 (zi zI_3 (zi underlying3 (zi tI_4 (zi zI_4 (zi underlying4 (zi tI_9 (zi zI_9 underlying9)))))))
theorem c_l5Holds (s : ByteArray) (a b : Int) (st : zy7) : zq7 prog 109 [.str s, .int .i64 a, .int .i64 b] st (fun r st' => r = .bool (cmpH s a b) ∧ st' = st) := by
 unfold cmpH
 refine wF [1000000] 3 func109 ntmps109 rfl rfl ?_
 intro _
 simp -implicitDefEqProofs only [evF, ↓evZ, implies_true, seval, tf_B6_109]
 refine zq4 (fun h6 => ?_) (fun h6 => ?_)
 · simp -implicitDefEqProofs only [evF, ↓evZ, implies_true, seval, tf_B6_109]
   rw [if_pos (by simpa using h6)]
 rw [if_neg (by simpa using h6)]
 simp -implicitDefEqProofs only [evF, ↓evZ, implies_true, seval, tf_B6_109]
 refine zq4 (fun h7 => ?_) (fun h7 => ?_)
 · simp -implicitDefEqProofs only [evF, ↓evZ, implies_true, seval, tf_B6_109]
   rw [if_pos (by simpa using h7)]
 rw [if_neg (by simpa using h7)]
 simp -implicitDefEqProofs only [evF, ↓evZ, implies_true, seval, tf_B6_109]
 refine zq4 (fun h8 => ?_) (fun h8 => ?_)
 · simp -implicitDefEqProofs only [evF, ↓evZ, implies_true, seval, tf_B6_109]
   rw [if_pos (by simpa using h8)]
 rw [if_neg (by simpa using h8)]
 simp -implicitDefEqProofs only [evF, ↓evZ, implies_true, seval, tf_B6_109]
 refine zq4 (fun h9 => ?_) (fun h9 => ?_)
 · simp -implicitDefEqProofs only [evF, ↓evZ, implies_true, seval, tf_B6_109]
   rw [if_pos (by simpa using h9)]
 rw [if_neg (by simpa using h9)]
 simp -implicitDefEqProofs only [evF, ↓evZ, implies_true, seval, tf_B6_109]
abbrev tf_B6_90 := zi tI_3 (zi zI_3 (zi underlying3 (zi tI_4 (zi zI_4 (zi underlying4 (zi tI_9 (zi zI_9 (zi underlying9 (zi tI_29 (zi zI_29 (zi eI_29 (zi eB_29 (zi eZ_29 (zi underlying29 (zi tI_56 (zi zI_56 (zi fI_56_0 (zi fI_56_1 (zi fI_56_2 (zi fI_56_3 bI_56))))))))))))))))))))
theorem c_l5Compare (n : Int) (s : ByteArray) (x y : Tm) {N : Int} (hx : OkV N x) (hy : OkV N y) (st : zy7) : zq7 prog 90 [(Tm.mk 3 n s [x, y]).av] st (fun r st' => r = .int .i64 (cmpC s x y) ∧ st' = st) := by
 have hat0 : aIndexAddr prog 29 (.slice [x.av, y.av]) (.int .i64 0) = some (.pptr x.av) := ev_at (av := Tm.av) (l := [x, y]) (i := 0) eI_29 rfl (Tm.av_width x)
 have hat1 : aIndexAddr prog 29 (.slice [x.av, y.av]) (.int .i64 1) = some (.pptr y.av) := ev_at (av := Tm.av) (l := [x, y]) (i := 1) eI_29 rfl (Tm.av_width y)
 have hax := fun st => c_l5Arith x st hx
 have hay := fun st => c_l5Arith y st hy
 unfold cmpC both
 simp only [Tm.av_mk, List.map_cons, List.map_nil]
 refine wF [1000000] 1 func90 ntmps90 rfl rfl ?_
 intro _
 simp -implicitDefEqProofs only [hat0, hat1, Tm.av_agg, Tm.av_width, evF, ↓evZ, implies_true, seval, tf_B6_90]
 refine (hax _).to ?_
 generalize x.ev.1 = a at *
 generalize x.ev.2 = ca at *
 generalize y.ev.1 = b at *
 generalize y.ev.2 = cb at *
 simp -implicitDefEqProofs only [hat0, hat1, Tm.av_agg, Tm.av_width, evF, ↓evZ, implies_true, seval, tf_B6_90]
 refine zq4 (fun h4 => ?_) (fun h4 => ?_)
 · simp -implicitDefEqProofs only [hat0, hat1, Tm.av_agg, Tm.av_width, evF, ↓evZ, implies_true, seval, tf_B6_90]
   have h4' : ca ≠ 0 := by simpa using h4
   rw [if_pos h4']
 have h4' : ca = 0 := by simpa using h4
 subst h4'
 rw [if_neg (by simp)]
 simp -implicitDefEqProofs only [hat0, hat1, Tm.av_agg, Tm.av_width, evF, ↓evZ, implies_true, seval, tf_B6_90]
 refine (hay _).to ?_
 simp -implicitDefEqProofs only [hat0, hat1, Tm.av_agg, Tm.av_width, evF, ↓evZ, implies_true, seval, tf_B6_90]
 refine zq4 (fun h5 => ?_) (fun h5 => ?_)
 · simp -implicitDefEqProofs only [hat0, hat1, Tm.av_agg, Tm.av_width, evF, ↓evZ, implies_true, seval, tf_B6_90]
   have h5' : cb ≠ 0 := by simpa using h5
   rw [if_pos h5']
 have h5' : cb = 0 := by simpa using h5
 subst h5'
 rw [if_neg (by simp)]
 simp -implicitDefEqProofs only [hat0, hat1, Tm.av_agg, Tm.av_width, evF, ↓evZ, implies_true, seval, tf_B6_90]
 refine (c_l5Holds s a b _).to ?_
 simp -implicitDefEqProofs only [hat0, hat1, Tm.av_agg, Tm.av_width, evF, ↓evZ, implies_true, seval, tf_B6_90]
 refine (c_l5Code _ _).to ?_
 simp -implicitDefEqProofs only [hat0, hat1, Tm.av_agg, Tm.av_width, evF, ↓evZ, implies_true, seval, tf_B6_90]
abbrev tf_B6_91 := zi tI_3 (zi zI_3 (zi underlying3 (zi tI_4 (zi zI_4 (zi underlying4 (zi tI_9 (zi zI_9 (zi underlying9 (zi tI_29 (zi zI_29 (zi eI_29 (zi eB_29 (zi eZ_29 (zi underlying29 (zi tI_56 (zi zI_56 (zi fI_56_0 (zi fI_56_1 (zi fI_56_2 (zi fI_56_3 bI_56))))))))))))))))))))
theorem c_l5Test (n : Int) (s : ByteArray) (x : Tm) (hs : s = ⟨#[118, 97, 114]⟩ ∨ s = ⟨#[110, 111, 110, 118, 97, 114]⟩ ∨ s = ⟨#[97, 116, 111, 109]⟩ ∨ s = ⟨#[105, 110, 116]⟩) (st : zy7) :
 zq7 prog 91 [(Tm.mk 3 n s [x]).av] st (fun r st' => r = .int .i64 (codeB (testB s x)) ∧ st' = st) := by
 obtain ⟨xk, xn, xs, xt⟩ := x
 have hat0 : aIndexAddr prog 29 (.slice [(Tm.mk xk xn xs xt).av]) (.int .i64 0) = some (.pptr (Tm.mk xk xn xs xt).av) := ev_at (av := Tm.av) (l := [Tm.mk xk xn xs xt]) (i := 0) eI_29 rfl (Tm.av_width _)
 simp only [Tm.av_mk] at hat0
 simp only [List.map_cons, List.map_nil, Tm.av_mk]
 refine wF [1000000] 1 func91 ntmps91 rfl rfl ?_
 intro _
 simp -implicitDefEqProofs only [hat0, evF, ↓evZ, implies_true, seval, tf_B6_91]
 refine zq4 (fun h => ?_) (fun h => ?_)
 · have hs' : s = ⟨#[118, 97, 114]⟩ := by simpa using h
   subst hs'
   simp -implicitDefEqProofs only [hat0, evF, ↓evZ, implies_true, seval, tf_B6_91]
   refine (c_l5Code _ _).to ?_
   simp -implicitDefEqProofs only [hat0, evF, ↓evZ, implies_true, seval, tf_B6_91]
   rfl
 have h1 : s ≠ ⟨#[118, 97, 114]⟩ := by simpa using h
 simp -implicitDefEqProofs only [hat0, evF, ↓evZ, implies_true, seval, tf_B6_91]
 refine zq4 (fun h => ?_) (fun h => ?_)
 · have hs' : s = ⟨#[110, 111, 110, 118, 97, 114]⟩ := by simpa using h
   subst hs'
   simp -implicitDefEqProofs only [hat0, evF, ↓evZ, implies_true, seval, tf_B6_91]
   refine (c_l5Code _ _).to ?_
   simp -implicitDefEqProofs only [hat0, evF, ↓evZ, implies_true, seval, tf_B6_91]
   rfl
 have h2 : s ≠ ⟨#[110, 111, 110, 118, 97, 114]⟩ := by simpa using h
 simp -implicitDefEqProofs only [hat0, evF, ↓evZ, implies_true, seval, tf_B6_91]
 refine zq4 (fun h => ?_) (fun h => ?_)
 · have hs' : s = ⟨#[105, 110, 116]⟩ := by simpa using h
   subst hs'
   simp -implicitDefEqProofs only [hat0, evF, ↓evZ, implies_true, seval, tf_B6_91]
   refine (c_l5Code _ _).to ?_
   simp -implicitDefEqProofs only [hat0, evF, ↓evZ, implies_true, seval, tf_B6_91]
   rfl
 have h3 : s ≠ ⟨#[105, 110, 116]⟩ := by simpa using h
 have hs' : s = ⟨#[97, 116, 111, 109]⟩ := by simpa [h1, h2, h3] using hs
 subst hs'
 have et : testB ⟨#[97, 116, 111, 109]⟩ (Tm.mk xk xn xs xt) = (decide (xk = 3) && decide ((xt.length : Int) = 0)) := rfl
 rw [et]
 simp -implicitDefEqProofs only [List.length_map, evF, ↓evZ, implies_true, seval, tf_B6_91]
 refine zx4 (fun h4 => ?_) (fun h4 => ?_)
 · simp -implicitDefEqProofs only [h4, List.length_map, evF, ↓evZ, implies_true, seval, tf_B6_91]
   refine (c_l5Code _ _).to ?_
   simp -implicitDefEqProofs only [List.length_map, evF, ↓evZ, implies_true, seval, tf_B6_91]
 · simp -implicitDefEqProofs only [h4, List.length_map, evF, ↓evZ, implies_true, seval, tf_B6_91]
   refine (c_l5Code _ _).to ?_
   simp -implicitDefEqProofs only [List.length_map, evF, ↓evZ, implies_true, seval, tf_B6_91]
   simp at h4; simp [h4]
def argR (x y : Tm) : Tm × Int := if x.k = 1 ∨ y.k = 1 then (Tm.zero, 2) else if x.k ≠ 2 ∨ y.k ≠ 3 ∨ y.ts.length = 0 then (Tm.zero, 3) else match argT x y with
 | some u => (u, 0)
 | none => (Tm.zero, 1)
abbrev tf_B7_88 := zi tI_3 (zi zI_3 (zi underlying3 (zi tI_29 (zi zI_29 (zi eI_29 (zi eB_29 (zi eZ_29 (zi underlying29 (zi tI_56 (zi zI_56 (zi fI_56_0 (zi fI_56_1 (zi fI_56_2 (zi fI_56_3 bI_56))))))))))))))
theorem c_l5Arg {N : Int} (n : Int) (s : ByteArray) (x y z : Tm) (hy : OkV N y) (st : zy7) : zq7 prog 88 [(Tm.mk 3 n s [x, y, z]).av] st (fun r st' => r = .tup [(argR x y).1.av, .int .i64 (argR x y).2] ∧ st' = st) := by
 have hat0 : aIndexAddr prog 29 (.slice [x.av, y.av, z.av]) (.int .i64 0) = some (.pptr x.av) := ev_at (av := Tm.av) (l := [x, y, z]) (i := 0) eI_29 rfl (Tm.av_width x)
 have hat1 : aIndexAddr prog 29 (.slice [x.av, y.av, z.av]) (.int .i64 1) = some (.pptr y.av) := ev_at (av := Tm.av) (l := [x, y, z]) (i := 1) eI_29 rfl (Tm.av_width y)
 obtain ⟨xk, xn, xs, xt⟩ := x
 obtain ⟨yk, yn, ys, yt⟩ := y
 have hyl : yt.length ≤ 4 := by
  exact hy.kind.2
 rw [Tm.av_mk] at hat0
 simp only [Tm.av_mk xk, Tm.av_mk yk] at hat0 hat1
 unfold argR
 simp only [Tm.av_mk 3, List.map_cons, List.map_nil, Tm.av_mk xk, Tm.av_mk yk, Tm.k, Tm.ts]
 refine zq7.done ?_
 refine wF [1000000] 1 func88 ntmps88 rfl rfl ?_
 intro _
 simp -implicitDefEqProofs only [hat0, hat1, Tm.av_agg, Tm.av_width, List.length_map, zy4, evF, ↓evZ, implies_true, seval, tf_B7_88]
 intro b hb
 have hbad : ∀ o (p : Tm × Int) (k : Int), p = (Tm.zero, k) → (AV.tup [.agg [.int .i64 0, .int .i64 0, .str ⟨#[]⟩, .fslice []], .int .i64 k]).soft = .tup [p.1.av, .int .i64 p.2] ∧ Drops (st.upd b o) st := fun o p k e => by
  rw [e]
  exact ⟨by simp only [Tm.zero, Tm.av_mk, soft_agg, soft_tup, soft_int, soft_bool, soft_str, soft_slice, soft_fslice, soft_ptr, soft_pptr, soft_map, soft_mslice, Tm.soft, List.map_cons, List.map_nil, List.map_nil], (Drops.refl _).upd hb⟩
 refine zx4 (fun h => ?_) (fun h => ?_)
 case refine_2 =>
  have h' : xk = 1 := by simpa using h
  simp -implicitDefEqProofs only [h, hat0, hat1, Tm.av_agg, Tm.av_width, List.length_map, zy4, evF, ↓evZ, implies_true, seval, tf_B7_88]
  exact hbad _ _ 2 (if_pos (.inl h'))
 have hx1 : xk ≠ 1 := by simpa using h
 simp -implicitDefEqProofs only [h, hat0, hat1, Tm.av_agg, Tm.av_width, List.length_map, zy4, evF, ↓evZ, implies_true, seval, tf_B7_88]
 refine zq4 (fun h1 => ?_) (fun h1 => ?_)
 · have h' : yk = 1 := by simpa using h1
   simp -implicitDefEqProofs only [hat0, hat1, Tm.av_agg, Tm.av_width, List.length_map, zy4, evF, ↓evZ, implies_true, seval, tf_B7_88]
   exact hbad _ _ 2 (if_pos (.inr h'))
 have hy1 : yk ≠ 1 := by simpa using h1
 rw [if_neg (fun h2 => h2.elim hx1 hy1)]
 simp -implicitDefEqProofs only [hat0, hat1, Tm.av_agg, Tm.av_width, List.length_map, zy4, evF, ↓evZ, implies_true, seval, tf_B7_88]
 refine zx4 (fun h4 => ?_) (fun h4 => ?_)
 case refine_2 =>
  have h' : xk ≠ 2 := by simpa using h4
  simp -implicitDefEqProofs only [h4, hat0, hat1, Tm.av_agg, Tm.av_width, List.length_map, zy4, evF, ↓evZ, implies_true, seval, tf_B7_88]
  exact hbad _ _ 3 (if_pos (.inl h'))
 have hx2 : xk = 2 := by simpa using h4
 simp -implicitDefEqProofs only [h4, hat0, hat1, Tm.av_agg, Tm.av_width, List.length_map, zy4, evF, ↓evZ, implies_true, seval, tf_B7_88]
 refine zx4 (fun h5 => ?_) (fun h5 => ?_)
 case refine_2 =>
  have h' : yk ≠ 3 := by simpa using h5
  simp -implicitDefEqProofs only [h5, hat0, hat1, Tm.av_agg, Tm.av_width, List.length_map, zy4, evF, ↓evZ, implies_true, seval, tf_B7_88]
  exact hbad _ _ 3 (if_pos (.inr (.inl h')))
 have hy3 : yk = 3 := by simpa using h5
 simp -implicitDefEqProofs only [h5, hat0, hat1, Tm.av_agg, Tm.av_width, List.length_map, zy4, evF, ↓evZ, implies_true, seval, tf_B7_88]
 refine zq4 (fun h6 => ?_) (fun h6 => ?_)
 · have h' : yt.length = 0 := by simp at h6; simp [h6]
   simp -implicitDefEqProofs only [hat0, hat1, Tm.av_agg, Tm.av_width, List.length_map, zy4, evF, ↓evZ, implies_true, seval, tf_B7_88]
   exact hbad _ _ 3 (if_pos (.inr (.inr h')))
 have hyt : yt.length ≠ 0 := by simp at h6; simpa using h6
 rw [if_neg (by simp [hx2, hy3]; intro h7; simp [h7] at hyt)]
 simp -implicitDefEqProofs only [hat0, hat1, Tm.av_agg, Tm.av_width, List.length_map, zy4, evF, ↓evZ, implies_true, seval, tf_B7_88]
 have hno : ¬ (1 ≤ xn ∧ xn ≤ yt.length) → (match argT (.mk xk xn xs xt) (.mk yk yn ys yt) with | some u => (u, (0 : Int)) | none => (Tm.zero, 1)) = (Tm.zero, (1 : Int)) := fun h' => by
  have ea : argT (.mk xk xn xs xt) (.mk yk yn ys yt) = none := if_neg h'
  rw [ea]
 refine zx4 (fun h7 => ?_) (fun h7 => ?_)
 case refine_2 =>
  have h' : xn < 1 := by simpa using h7
  simp -implicitDefEqProofs only [h7, hat0, hat1, Tm.av_agg, Tm.av_width, List.length_map, zy4, evF, ↓evZ, implies_true, seval, tf_B7_88]
  exact hbad _ _ 1 (hno (by omega))
 have hl1 : ¬ xn < 1 := by simpa using h7
 simp -implicitDefEqProofs only [h7, hat0, hat1, Tm.av_agg, Tm.av_width, List.length_map, zy4, evF, ↓evZ, implies_true, seval, tf_B7_88]
 refine zq4 (fun h8 => ?_) (fun h8 => ?_)
 · have h' : (yt.length : Int) < xn := by simpa using h8
   simp -implicitDefEqProofs only [hat0, hat1, Tm.av_agg, Tm.av_width, List.length_map, zy4, evF, ↓evZ, implies_true, seval, tf_B7_88]
   exact hbad _ _ 1 (hno (by omega))
 have hl2 : ¬ (yt.length : Int) < xn := by simpa using h8
 have h' : 1 ≤ xn ∧ xn ≤ yt.length := by omega
 obtain ⟨i, hi⟩ : ∃ i : Nat, xn - 1 = i := ⟨(xn - 1).toNat, by omega⟩
 have hlt : i < yt.length := by omega
 obtain ⟨u, hu⟩ : ∃ u, yt[i]? = some u := ⟨_, List.getElem?_eq_getElem hlt⟩
 have ea : argT (.mk xk xn xs xt) (.mk yk yn ys yt) = some u := by
  refine (if_pos h').trans ?_
  show yt[(xn - 1).toNat]? = some u
  rw [hi, Int.toNat_natCast, hu]
 rw [ea]
 have hw : IntKind.i64.wrap (xn - 1) = (i : Int) := by rw [wrap64 (by omega) (by omega)]; exact hi
 have hatu := ev_at (av := Tm.av) (P := prog) eI_29 hu (Tm.av_width u)
 simp -implicitDefEqProofs only [Tm.av_cells, Tm.av_store, take_all (Tm.av_cells _), agg_cells (Tm.av_agg _), hat0, hat1, hatu, hw, Tm.av_agg, Tm.av_width, List.length_map, zy4, evF, ↓evZ, implies_true, seval, tf_B7_88]
 exact ⟨by simp only [soft_agg, soft_tup, soft_int, soft_bool, soft_str, soft_slice, soft_fslice, soft_ptr, soft_pptr, soft_map, soft_mslice, Tm.soft, List.map_cons, List.map_nil, Tm.soft], (Drops.refl _).upd hb⟩
theorem itm_av (n : Int) : (itm n).av = (Tm.mk 2 n ⟨#[]⟩ []).av := rfl
def arrN (N : Nat) (σ : Sub) : List AV := (List.range N).map fun i : Nat => cellOf (σ (i : Int))
theorem arrN_widths (N : Nat) (σ : Sub) : ∀ e ∈ arrN N σ, e.width = 4 := by intro e h; simp only [arrN, List.mem_map] at h; obtain ⟨i, _, rfl⟩ := h; exact cellOf_width _
theorem arrN_get (N : Nat) (σ : Sub) {i : Nat} (h : i < N) : (arrN N σ)[i]? = some (cellOf (σ (i : Int))) := by
 simp only [arrN, List.getElem?_map, List.getElem?_range h, Option.map_some]
theorem arrN_set (N : Nat) (σ : Sub) {i : Nat} (h : i < N) (u : Tm) : (arrN N σ).set i u.av = arrN N (σ.set (i : Int) u) := by
 apply List.ext_getElem?
 intro j
 by_cases hj : j < N
 · rw [arrN_get N _ hj, List.getElem?_set]
   by_cases e : i = j
   · subst e
     simp [arrN, hj, Sub.set, cellOf]
   · rw [if_neg e, arrN_get N _ hj]
     simp only [Sub.set]
     rw [if_neg (by omega)]
 · rw [List.getElem?_eq_none (by simp [arrN]; omega), List.getElem?_eq_none (by simp [arrN]; omega)]
def ArrN (N : Nat) (st : zy7) (b : Nat) (σ : Sub) : Prop := st b = some (.cells ((arrN N σ).flatMap AV.cells))
theorem ArrN.mid {N : Nat} {st : zy7} {b : Nat} {σ : Sub} (h : ArrN N st b σ) {i : Nat} (hi : i < N) :
 ∃ A B, st b = some (.cells (A ++ (cellOf (σ (i : Int))).cells ++ B)) ∧ A.length = i * 4 ∧ ∀ (u : Tm), ArrN N (st.upd b (.cells (A ++ u.av.cells ++ B))) b (σ.set (i : Int) u) := by
 obtain ⟨A, B, h1, h2, h3⟩ := flat_mid (arrN_widths N σ) (arrN_get N σ hi)
 refine ⟨A, B, by rw [← h1]; exact h, h2, fun u => ?_⟩
 unfold ArrN
 rw [zy7.upd_same, ← arrN_set N σ hi, h3]
theorem ArrN.upd {N : Nat} {st : zy7} {b x : Nat} {σ : Sub} {o : AO} (h : ArrN N st b σ) (hx : x ≠ b) : ArrN N (st.upd x o) b σ := by
 unfold ArrN
 rw [zy7.upd_ne _ _ (Ne.symm hx)]
 exact h
theorem ArrN.none {N : Nat} {st : zy7} {b : Nat} {σ : Sub} (h : ArrN N st b σ) {i : Nat} (hi : i < N) (hn : σ (i : Int) = Option.none) :
 ∃ D, st b = some (.cells D) ∧ D[i * 4 + 0]? = some (.int .i64 0) ∧ i * 4 + 4 ≤ D.length := by
 obtain ⟨A, B, e1, e2, _⟩ := h.mid hi
 rw [hn] at e1
 obtain ⟨r1, r2, r3⟩ := arr_reads (B := B) (C := (cellOf Option.none).cells) e2 rfl
 exact ⟨_, e1, r3, r1⟩
theorem ArrN.some {N : Nat} {st : zy7} {b : Nat} {σ : Sub} (h : ArrN N st b σ) {i : Nat} (hi : i < N) {k n : Int} {s : ByteArray} {ts : List Tm} (hn : σ (i : Int) = Option.some (.mk k n s ts)) :
 ∃ D, st b = Option.some (.cells D) ∧ D[i * 4 + 0]? = Option.some (.int .i64 k) ∧ i * 4 + 4 ≤ D.length ∧ List.take 4 (List.drop (i * 4) D) = [.int .i64 k, .int .i64 n, .str s, .slice (ts.map Tm.av)] := by
 obtain ⟨A, B, e1, e2, _⟩ := h.mid hi
 rw [hn] at e1
 simp only [cellOf, Tm.av_mk, AV.cells] at e1
 obtain ⟨r1, r2, r3⟩ := arr_reads (B := B) (C := [.int .i64 k, .int .i64 n, .str s, .slice (ts.map Tm.av)]) e2 rfl
 exact ⟨_, e1, r3, r1, r2⟩
theorem ArrN.set {N : Nat} {st : zy7} {b : Nat} {σ : Sub} (h : ArrN N st b σ) {i : Nat} (hi : i < N) (u : Tm) :
 ∃ D D', st b = Option.some (.cells D) ∧ i * 4 + 4 ≤ D.length ∧ zy4 D (i * 4) u.av.cells = D' ∧ ArrN N (st.upd b (.cells D')) b (σ.set (i : Int) u) := by
 obtain ⟨A, B, e1, e2, e3⟩ := h.mid hi
 obtain ⟨p1, p2⟩ := partE (B := B) (C := (cellOf (σ (i : Int))).cells) (x := u.av.cells) e2 (cellOf_cells _) (Tm.av_cells u)
 exact ⟨_, _, e1, p2, p1, e3 u⟩
abbrev tf_Q1_106 := zi tI_3 (zi zI_3 (zi underlying3 (zi tI_29 (zi zI_29 (zi eI_29 (zi eB_29 (zi eZ_29 (zi underlying29 (zi tI_56 (zi zI_56 (zi fI_56_0 (zi fI_56_1 (zi fI_56_2 (zi fI_56_3 bI_56))))))))))))))
theorem cN_l3Walk {N : Nat} {σ : Sub} (hok : AllS (OkV N) σ) {f : Nat} {t u : Tm} (hw : WkN σ f t u) (ht : OkV N t) (b : Nat) (st : zy7) (hS : ArrN N st b σ) : zq7 prog 106 [t.av, .mslice b 0 N 4] st (fun r st' => r = u.av ∧ st' = st) := by
 refine zq7.done ?_
 refine wF [1000000, 2] 2 func106 ntmps106 rfl rfl ?_
 intro _
 simp -implicitDefEqProofs only [zy4, evF, ↓evZ, implies_true, seval, tf_Q1_106]
 intro b2 h2 b4 h4
 have hne : b4 ≠ b2 := by rintro rfl; rw [zy7.upd_same] at h4; cases h4
 have hn4 : st b4 = none := by rw [zy7.upd_ne st _ hne] at h4; exact h4
 have hb2 : b2 ≠ b := by rintro rfl; rw [ArrN, h2] at hS; cases hS
 have hb4 : b4 ≠ b := by rintro rfl; rw [ArrN, hn4] at hS; cases hS
 refine zw5 (σ := Nat × Tm) [1000000, 2] [1, 2, 4] (fun p => WkN σ p.1 p.2 u ∧ OkV N p.2) (fun p => []) (fun p => (st.upd b2 (.cells p.2.av.cells)).upd b4 (.cells [.int .i64 0, .int .i64 0, .str ⟨#[]⟩, .fslice []])) (fun p => p.1) (by decide +kernel) ⟨(f, t), ⟨hw, ht⟩, zx7.mk (by simp -implicitDefEqProofs only [zy4, evF, ↓evZ, implies_true, seval, tf_Q1_106])⟩ ?_
 rintro ⟨g, t⟩ ⟨hw, ht⟩
 obtain ⟨k, n, s, ts⟩ := t
 simp only at hw ht
 simp only [Tm.av_mk]
 have hend : k ≠ 1 ∨ σ n = none → u = .mk k n s ts := fun h => by
  cases hw with
  | stop _ => rfl
  | go h1 h2 _ =>
   simp only [Tm.k] at h1
   rcases h with h | h
   · exact absurd h1 h
   · rw [show σ n = some _ from h2] at h; cases h
 simp -implicitDefEqProofs only [zy4, hne, hne.symm, hb2.symm, hb4.symm, hb2, hb4, evF, ↓evZ, implies_true, seval, tf_Q1_106]
 refine zx4 (fun h => ?_) (fun h => ?_)
 case refine_2 =>
  simp -implicitDefEqProofs only [h, zy4, hne, hne.symm, hb2.symm, hb4.symm, hb2, hb4, evF, ↓evZ, implies_true, seval, tf_Q1_106]
  simp only [Bool.not_true, decide_eq_false_iff_not] at h
  rw [hend (.inl h), ← Tm.av_mk]
  exact ⟨Tm.soft _, ((Drops.refl _).upd h2).upd hn4⟩
 simp only [decide_eq_true_eq] at h
 subst h
 obtain ⟨hn0, hn1, _⟩ := ht.var
 obtain ⟨i, rfl⟩ : ∃ i : Nat, n = i := ⟨n.toNat, by omega⟩
 have hi : i < N := by omega
 have hi' : decide ((i : Int) < (N : Int)) = true := by simp; omega
 simp -implicitDefEqProofs only [decide_true, hi', beq_self_eq_true, zy4, hne, hne.symm, hb2.symm, hb4.symm, hb2, hb4, evF, ↓evZ, implies_true, seval, tf_Q1_106]
 have hat := held_at (P := prog) (b := b) (len := N) eI_29 hi
 cases hw with
 | stop hs =>
  obtain ⟨D, e1, e2, _⟩ := hS.none hi (hs rfl)
  simp -implicitDefEqProofs only [hat, e1, e2, decide_true, zy4, hne, hne.symm, hb2.symm, hb4.symm, hb2, hb4, evF, ↓evZ, implies_true, seval, tf_Q1_106]
  exact ⟨by rw [← Tm.av_mk, Tm.soft], ((Drops.refl _).upd h2).upd hn4⟩
 | go h1 h2' h3 =>
  simp only [Tm.n] at h2'
  have ho := hok _ _ h2'
  rename_i g' u'
  obtain ⟨k', n', s', ts'⟩ := u'
  have hk' : ¬ k' = 0 := by have := ho.kind.1; omega
  obtain ⟨D, e1, e2, e3, e4⟩ := hS.some hi h2'
  have e5 : i * 4 + 0 + 4 ≤ D.length := e3
  simp -implicitDefEqProofs only [hat, e1, e2, e3, e4, hk', decide_false, zy4, hne, hne.symm, hb2.symm, hb4.symm, hb2, hb4, evF, ↓evZ, implies_true, seval, tf_Q1_106]
  rw [zy7.upd_mid hne, zy7.upd_comm _ _ _ hne]
  refine ⟨(g', .mk k' n' s' ts'), Nat.lt_succ_self _, ⟨h3, ho⟩, ?_⟩
  simp only [Tm.av_mk]
  exact zx7.mk (by simp -implicitDefEqProofs only [zy4, hne, hne.symm, hb2.symm, hb4.symm, hb2, hb4, evF, ↓evZ, implies_true, seval, tf_Q1_106])
theorem ArrN.acc {N : Nat} {st : zy7} {b bW : Nat} {σ : Sub} {l : List AV} (h : ArrN N st b σ) (hb : l ≠ [] → st bW = Option.none) : ArrN N (accS st bW l) b σ := by
 cases l with
 | nil => exact h
 | cons x l => exact h.upd (by rintro rfl; rw [ArrN, hb (by simp)] at h; cases h)
abbrev tf_Q1_107 := zi tI_3 (zi zI_3 (zi underlying3 (zi tI_4 (zi zI_4 (zi underlying4 (zi tI_29 (zi zI_29 (zi eI_29 (zi eB_29 (zi eZ_29 (zi underlying29 (zi tI_56 (zi zI_56 (zi fI_56_0 (zi fI_56_1 (zi fI_56_2 (zi fI_56_3 (zi bI_56 (zi tI_66 (zi zI_66 (zi eI_66 (zi eB_66 (zi eZ_66 underlying66)))))))))))))))))))))))
theorem cN_l3Within {N : Nat} {σ : Sub} {R : Int → Tm} {rk : Int → Nat} {B : Nat} (G : Good σ R rk B) (hok : AllS (OkX N) σ) (hN : N ≤ 1048576) {n : Int} (hn : σ n = none) (t : Tm) (ht : OkX N t) (b : Nat) (st : zy7) (hS : ArrN N st b σ) :
 zq7 prog 107 [.int .i64 n, t.av, .mslice b 0 N 4] st (fun r st' => r = .bool (decide (n ∈ (t.mapv R).vl)) ∧ st' = st) := by
 refine zq7.done ?_
 refine wF [1000000] 3 func107 ntmps107 rfl rfl ?_
 intro _
 simp -implicitDefEqProofs only [zy4, evF, ↓evZ, implies_true, seval, tf_Q1_107]
 have h0 := c_l1Vars t [] 0 st (Tm.cv_wf t (ht.1.2.1)) (fun h => absurd rfl h) (by have := ht.2; simp only [List.length_nil]; omega)
 simp only [List.map_nil, accV_nil, accS_nil] at h0
 refine h0.mono ?_
 rintro _ _ ⟨b0, rfl, rfl, hb0⟩
 obtain ⟨v1, v2, _⟩ := vars_spec t (Tm.cv_wf t (ht.1.2.1)) []
 simp -implicitDefEqProofs only [zy4, evF, ↓evZ, implies_true, seval, tf_Q1_107]
 refine zw5 (σ := Nat × List Int × Nat) [1000000] [0, 2]
  (fun p => p.1 ≤ p.2.1.length ∧ p.2.1.Nodup ∧ (∀ w ∈ p.2.1, w ∈ VN N) ∧ (p.2.1.map iv ≠ [] → st p.2.2 = none) ∧ (∀ w ∈ p.2.1.take p.1, w ≠ n ∧ ∀ u, σ w = some u → ∀ v ∈ u.vl, v ∈ p.2.1) ∧ (∀ w ∈ p.2.1, n ∈ (R w).vl → n ∈ (t.mapv R).vl) ∧ (n ∈ (t.mapv R).vl → ∃ w ∈ p.2.1, n ∈ (R w).vl))
  (fun p => [(6, .bool false), (7, accV 1 p.2.2 (p.2.1.map iv)), (8, .int .i64 p.1)]) (fun p => accS st p.2.2 (p.2.1.map iv)) (fun p => N - p.1) (by decide +kernel)
  ⟨(0, t.vars [], b0), ⟨Nat.zero_le _, v2 List.nodup_nil, fun w hw => ?_, hb0, by simp, fun w hw hm => ?_, fun hm => ?_⟩, zx7.mk (by simp -implicitDefEqProofs only [zy4, evF, ↓evZ, implies_true, seval, tf_Q1_107])⟩ ?_
 · rcases (v1 w).1 hw with h | h
   · cases h
   · exact mem_VN.2 (ht.1.2.2 w h)
 · rcases (v1 w).1 hw with h | h
   · cases h
   · exact (vl_mapv t).2 ⟨w, h, hm⟩
 · obtain ⟨w, hw, hm⟩ := (vl_mapv t).1 hm
   exact ⟨w, (v1 w).2 (.inr hw), hm⟩
 rintro ⟨i, W, bW⟩ ⟨i1, i2, i3, i4, i5, i6, i7⟩
 simp only at i1 i2 i3 i4 i5 i6 i7
 have haL := accV_len (w := 1) (b := bW) (l := W.map iv) underlying66
 have hWl := nodup_VN i2 (fun m hm => mem_VN.1 (i3 m hm))
 simp -implicitDefEqProofs only [haL, List.length_map, evF, ↓evZ, implies_true, seval, tf_Q1_107]
 refine zq4 (fun h => ?_) (fun h => ?_)
 case refine_2 =>
  simp only [decide_eq_false_iff_not, Int.ofNat_lt] at h
  obtain rfl : i = W.length := by omega
  rw [List.take_length] at i5
  simp -implicitDefEqProofs only [haL, List.length_map, evF, ↓evZ, implies_true, seval, tf_Q1_107]
  have hno : n ∉ (t.mapv R).vl := fun hm => by
   obtain ⟨w, hw, hnw⟩ := i7 hm
   exact within_no G i5 w hw hnw
  exact ⟨by simp only [hno, decide_false, soft_agg, soft_tup, soft_int, soft_bool, soft_str, soft_slice, soft_fslice, soft_ptr, soft_pptr, soft_map, soft_mslice, Tm.soft, List.map_cons, List.map_nil], Drops.accS (Drops.refl _) i4⟩
 simp only [decide_eq_true_eq, Int.ofNat_lt] at h
 obtain ⟨w, hx⟩ : ∃ w, W[i]? = some w := ⟨_, List.getElem?_eq_getElem h⟩
 have hmem := List.mem_of_getElem? hx
 have hat := acc_at (b := bW) (l := W.map iv) (i := i) (x := iv w) eI_66 (by rw [List.getElem?_map, hx]; rfl)
 obtain ⟨hblk, hget⟩ := acc_blk (st := st) (b := bW) hx
 have hw := wrap64 (n := (i : Int) + 1) (by omega) (by omega)
 simp -implicitDefEqProofs only [haL, List.length_map, hat, hblk, hget, Nat.mul_one, hw, evF, ↓evZ, implies_true, seval, tf_Q1_107]
 refine zq4 (fun h2 => ?_) (fun h2 => ?_)
 · simp only [decide_eq_true_eq] at h2
   subst h2
   simp -implicitDefEqProofs only [haL, List.length_map, hat, hblk, hget, Nat.mul_one, hw, evF, ↓evZ, implies_true, seval, tf_Q1_107]
   have hm : w ∈ (t.mapv R).vl := i6 w hmem (by rw [G.free hn, vl_vr]; simp)
   exact ⟨by simp only [hm, decide_true, soft_agg, soft_tup, soft_int, soft_bool, soft_str, soft_slice, soft_fslice, soft_ptr, soft_pptr, soft_map, soft_mslice, Tm.soft, List.map_cons, List.map_nil], Drops.accS (Drops.refl _) i4⟩
 simp only [decide_eq_false_iff_not] at h2
 simp -implicitDefEqProofs only [haL, List.length_map, hat, hblk, hget, Nat.mul_one, hw, evF, ↓evZ, implies_true, seval, tf_Q1_107]
 obtain ⟨hw0, hw1⟩ := mem_VN.1 (i3 w hmem)
 obtain ⟨j, rfl⟩ : ∃ j : Nat, w = j := ⟨w.toNat, by omega⟩
 have hj : j < N := by omega
 have hj' : decide ((j : Int) < (N : Int)) = true := by simp; omega
 have hatj := held_at (P := prog) (b := b) (len := N) eI_29 hj
 have hSA := hS.acc i4
 have htk : W.take (i + 1) = W.take i ++ [(j : Int)] := by rw [List.take_add_one, hx]; rfl
 have step : ∀ W' : List Int, (∀ v ∈ W, v ∈ W') → (∀ u, σ (j : Int) = some u → ∀ v ∈ u.vl, v ∈ W') → ∀ w ∈ W'.take (i + 1), W'.take (i + 1) = W.take (i + 1) → w ≠ n ∧ ∀ u, σ w = some u → ∀ v ∈ u.vl, v ∈ W' := by
  intro W' hsub hnew w hw' hte
  rw [hte, htk] at hw'
  rcases List.mem_append.1 hw' with hw' | hw'
  · exact ⟨(i5 w hw').1, fun u hu v hv => hsub v ((i5 w hw').2 u hu v hv)⟩
  · simp only [List.mem_cons, List.not_mem_nil, or_false] at hw'
    subst hw'
    exact ⟨h2, hnew⟩
 cases hs : σ (j : Int) with
 | none =>
  obtain ⟨D, e1, e2, _⟩ := hSA.none hj hs
  simp -implicitDefEqProofs only [hj', hatj, e1, e2, decide_true, beq_self_eq_true, haL, List.length_map, hat, hblk, hget, Nat.mul_one, hw, evF, ↓evZ, implies_true, seval, tf_Q1_107]
  exact ⟨(i + 1, W, bW), by simp only; omega, ⟨h, i2, i3, i4, fun w hw' => step W (fun _ h => h) (fun u hu => by rw [hs] at hu; cases hu) w hw' rfl, i6, i7⟩, zx7.mk (by simp -implicitDefEqProofs only [haL, List.length_map, hat, hblk, hget, Nat.mul_one, hw, evF, ↓evZ, implies_true, seval, tf_Q1_107])⟩
 | some u =>
  obtain ⟨k', n', s', ts'⟩ := u
  have ho := hok _ _ hs
  have hk' : ¬ k' = 0 := by have := ho.1.kind.1; omega
  obtain ⟨D, e1, e2, e3, e4⟩ := hSA.some hj hs
  simp -implicitDefEqProofs only [hj', hatj, e1, e2, e3, e4, hk', decide_false, beq_self_eq_true, haL, List.length_map, hat, hblk, hget, Nat.mul_one, hw, evF, ↓evZ, implies_true, seval, tf_Q1_107]
  have hwf := Tm.cv_wf _ (ho.1.2.1)
  have hc := c_l1Vars (.mk k' n' s' ts') W bW st hwf i4 (by have := ho.2; omega)
  obtain ⟨u1, u2, m, u3⟩ := vars_spec _ hwf W
  rw [Tm.av_mk] at hc
  refine hc.mono ?_
  rintro _ _ ⟨b', rfl, rfl, hb'⟩
  generalize (Tm.mk k' n' s' ts').vars W = W' at *
  have hte : W'.take (i + 1) = W.take (i + 1) := by rw [u3, List.take_append_of_le_length (by omega)]
  have hbd : (Tm.mk k' n' s' ts').mapv R = R (j : Int) := (G.bound hs).symm
  simp -implicitDefEqProofs only [haL, List.length_map, hat, hblk, hget, Nat.mul_one, hw, evF, ↓evZ, implies_true, seval, tf_Q1_107]
  refine ⟨(i + 1, W', b'), by simp only; omega, ⟨by rw [u3]; simp only [List.length_append]; omega, u2 i2, fun w hw' => ?_, hb', fun w hw' => step W' (fun v hv => (u1 v).2 (.inl hv)) (fun u hu v hv => ?_) w hw' hte, fun w hw' hm => ?_, fun hm => ?_⟩, zx7.mk (by simp -implicitDefEqProofs only [haL, List.length_map, hat, hblk, hget, Nat.mul_one, hw, evF, ↓evZ, implies_true, seval, tf_Q1_107])⟩
  · rcases (u1 w).1 hw' with h | h
    · exact i3 w h
    · exact mem_VN.2 (ho.1.2.2 w h)
  · rw [hs] at hu
    cases hu
    exact (u1 v).2 (.inr hv)
  · rcases (u1 w).1 hw' with h | h
    · exact i6 w h hm
    · refine i6 (j : Int) hmem ?_
      rw [← hbd]
      exact (vl_mapv _).2 ⟨w, h, hm⟩
  · obtain ⟨w, h, hm⟩ := i7 hm
    exact ⟨w, (u1 w).2 (.inl h), hm⟩
def AN (N b : Nat) (st : zy7) (σ' : Sub) (st' : zy7) : Prop := ArrN N st' b σ' ∧ ∀ x o, st x = some o → x ≠ b → st' x = some o
theorem AN.refl {N b : Nat} {st : zy7} {σ : Sub} (h : ArrN N st b σ) : AN N b st σ st := ⟨h, fun _ _ h _ => h⟩
theorem AN.trans {N b : Nat} {st s2 s3 : zy7} {σ2 σ3 : Sub} (x : AN N b st σ2 s2) (y : AN N b s2 σ3 s3) : AN N b st σ3 s3 := ⟨y.1, fun q o h hn => y.2 q o (x.2 q o h hn) hn⟩
def UFN (N : Nat) (f : Nat) (b : Nat) (σ : Sub) (a c : Tm) (r : Bool) (σ' : Sub) : Prop := ∀ st, ArrN N st b σ → zq7 prog f [a.av, c.av, .mslice b 0 N 4] st (fun r' st' => r' = .bool r ∧ AN N b st σ' st')
abbrev tf_Q2_84 := zi tI_3 (zi zI_3 (zi underlying3 (zi tI_4 (zi zI_4 (zi underlying4 (zi tI_9 (zi zI_9 (zi underlying9 (zi tI_29 (zi zI_29 (zi eI_29 (zi eB_29 (zi eZ_29 (zi underlying29 (zi tI_56 (zi zI_56 (zi fI_56_0 (zi fI_56_1 (zi fI_56_2 (zi fI_56_3 bI_56))))))))))))))))))))
theorem l3UN_body (N : Nat) (hN : N ≤ 1048576) (g : Nat) (bb : Nat) (IH : ∀ (σ : Sub) (a b : Tm) (r : Bool) (σ' : Sub) (add : List Int), IsGood σ → AllS (OkX N) σ → OkX N a → OkX N b → uniF g σ a b = some (r, σ', add) → UFN N 84 bb σ a b r σ')
 (σ : Sub) (a b : Tm) (r : Bool) (σ' : Sub) (add : List Int) (hg : IsGood σ) (hok : AllS (OkX N) σ) (ha0 : OkX N a) (hb0 : OkX N b) (h : uniF (g + 1) σ a b = some (r, σ', add))
 (hswap : (wk σ a).k ≠ 1 → (wk σ b).k = 1 → UFN N 84 bb σ (wk σ b) (wk σ a) r σ') : UFN N 84 bb σ a b r σ' := by
 intro st hS
 obtain ⟨rk, B, G⟩ := hg.rs
 obtain ⟨fa, wa⟩ := G.wk a
 obtain ⟨fb, wb⟩ := G.wk b
 have hokA : AllS (OkV N) σ := fun n u hu => (hok n u hu).1
 have hca := fun st (hS : ArrN N st bb σ) => cN_l3Walk hokA wa ha0.1 bb st hS
 have hcb := fun st (hS : ArrN N st bb σ) => cN_l3Walk hokA wb hb0.1 bb st hS
 have ea := wa.end
 have eb := wb.end
 have hsa := wa.all (p := OkX N) hok ha0
 have hsb := wb.all (p := OkX N) hok hb0
 replace h := uniF_cases h
 generalize wk σ a = a1 at *
 generalize wk σ b = b1 at *
 clear wa wb
 refine wF [1000000, 3, 4] 3 func84 ntmps84 rfl rfl ?_
 intro hfit
 simp -implicitDefEqProofs only [zy4, evF, ↓evZ, implies_true, seval, tf_Q2_84]
 intro b4 h4 b5 h5
 have h54 : b5 ≠ b4 := by rintro rfl; rw [zy7.upd_same] at h5; cases h5
 have hn5 : st b5 = none := by rw [zy7.upd_ne st _ h54] at h5; exact h5
 have h4b : b4 ≠ bb := by rintro rfl; rw [ArrN, h4] at hS; cases hS
 have h5b : b5 ≠ bb := by rintro rfl; rw [ArrN, hn5] at hS; cases hS
 have hS' : ∀ o o', ArrN N ((st.upd b4 o).upd b5 o') bb σ := fun o o' => (hS.upd h4b).upd h5b
 have hQ : ∀ o o', AN N bb st σ ((st.upd b4 o).upd b5 o') := fun o o' => ⟨hS' o o', fun x p h _ => by
  rw [zy7.upd_ne _ _ (by rintro rfl; rw [hn5] at h; cases h), zy7.upd_ne _ _ (by rintro rfl; rw [h4] at h; cases h)]; exact h⟩
 simp -implicitDefEqProofs only [Tm.av_cells, take_all (Tm.av_cells a), agg_cells (Tm.av_agg a), Tm.av_agg, Tm.av_width, Nat.le_refl, zy4, h54, h54.symm, evF, ↓evZ, implies_true, seval, tf_Q2_84]
 refine (hca _ (hS' _ _)).to ?_
 simp -implicitDefEqProofs only [Tm.av_cells, take_all (Tm.av_cells b), agg_cells (Tm.av_agg b), Tm.av_agg, Tm.av_width, Nat.le_refl, Tm.av_store, zy4, h54, h54.symm, evF, ↓evZ, implies_true, seval, tf_Q2_84]
 rw [zy7.upd_mid h54, zy7.upd_comm _ _ _ h54]
 refine (hcb _ (hS' _ _)).to ?_
 obtain ⟨ka, na, sa, tsa⟩ := a1
 obtain ⟨kb, nb, sb', tsb⟩ := b1
 obtain ⟨hla, hlas⟩ := Tm.small_mk (hsa.1.small)
 obtain ⟨hlb, hlbs⟩ := Tm.small_mk (hsb.1.small)
 have hfin : ∀ o o', AN N bb st σ ((st.upd b4 o).upd b5 o') := hQ
 have hka := fun h => (okX_kids N) _ h hsa
 have hkb := fun h => (okX_kids N) _ h hsb
 simp only [Tm.av_mk]
 simp only [Tm.k, Tm.n, Tm.s, Tm.ts] at h ea eb hswap hka hkb
 simp -implicitDefEqProofs only [zy7.upd_upd, zy4, h54, h54.symm, evF, ↓evZ, implies_true, seval, tf_Q2_84]
 have var : ∀ {n : Int} {t : Tm}, n ∈ VN N → σ n = none → OkX N t → bnd σ n t = (r, σ', add) → ∀ s0, ArrN N s0 bb σ → zq7 prog 107 [.int .i64 n, t.av, .mslice bb 0 N 4] s0 (fun r' st' => r' = .bool (!r) ∧ st' = s0) := by
  intro n t _ hn ht hb s0 hs0
  have := cN_l3Within G hok hN hn t ht bb s0 hs0
  unfold bnd at hb
  split at hb
  · rename_i hm
    cases hb
    simpa [hm] using this
  · rename_i hm
    cases hb
    simpa [hm] using this
 rcases h with ⟨h1, h2, h3, rfl, rfl, rfl⟩ | ⟨h1, h2, h3⟩ | ⟨h1, h2, h3⟩ | ⟨h1, h2, h3, h4⟩ | ⟨h1, h2, h3, rfl, rfl, rfl⟩
 · subst h1 h2 h3
   simp -implicitDefEqProofs only [decide_true, beq_self_eq_true, zy4, h54, h54.symm, evF, ↓evZ, implies_true, seval, tf_Q2_84]
   exact hfin _ _
 · subst h1
   have hin := mem_VN.2 (hsa.1.2.2 na (by rw [Tm.vl_var rfl]; simp))
   obtain ⟨hn0, hn1⟩ := mem_VN.1 hin
   have hcw := var hin (ea rfl) hsb h3 _ (hS' (.cells [.int .i64 1, .int .i64 na, .str sa, .slice (tsa.map Tm.av)]) (.cells [.int .i64 kb, .int .i64 nb, .str sb', .slice (tsb.map Tm.av)]))
   have hna := ea rfl
   rw [Tm.av_mk] at hcw
   obtain ⟨i, rfl⟩ : ∃ i : Nat, na = i := ⟨na.toNat, by omega⟩
   have hi : i < N := by omega
   have hat := held_at (P := prog) (b := bb) (len := N) eI_29 hi
   have h6 : kb = 1 → ¬ (i : Int) = nb := fun e1 e => h2 ⟨e1, e⟩
   have tail : ∀ (s0 : zy7), s0 = ((st.upd b4 (.cells [.int .i64 1, .int .i64 i, .str sa, .slice (tsa.map Tm.av)])).upd b5 (.cells [.int .i64 kb, .int .i64 nb, .str sb', .slice (tsb.map Tm.av)])) → r = true →
    ∃ D D', s0 bb = some (.cells D) ∧ i * 4 + 4 ≤ D.length ∧ zy4 D (i * 4) [.int .i64 kb, .int .i64 nb, .str sb', .slice (tsb.map Tm.av)] = D' ∧ AN N bb st σ' (s0.upd bb (.cells D')) := by
    rintro _ rfl rfl
    unfold bnd at h3
    split at h3
    · cases h3
    · cases h3
      obtain ⟨D, D', e1, e2, e3, e4⟩ := (hS' (.cells [.int .i64 1, .int .i64 i, .str sa, .slice (tsa.map Tm.av)]) (.cells [.int .i64 kb, .int .i64 nb, .str sb', .slice (tsb.map Tm.av)])).set hi (.mk kb nb sb' tsb)
      refine ⟨D, D', e1, e2, by rw [← e3, Tm.av_mk]; rfl, e4, fun x o hx hxb => ?_⟩
      rw [zy7.upd_ne _ _ hxb]
      exact (hQ _ _).2 x o hx hxb
   by_cases h5 : kb = 1
   · subst h5
     simp -implicitDefEqProofs only [decide_true, h6 rfl, decide_false, beq_self_eq_true, zy4, h54, h54.symm, evF, ↓evZ, implies_true, seval, tf_Q2_84]
     refine hcw.to ?_
     cases r with
     | false =>
      simp -implicitDefEqProofs only [zy4, h54, h54.symm, evF, ↓evZ, implies_true, seval, tf_Q2_84]
      unfold bnd at h3
      split at h3
      · cases h3
        exact hfin _ _
      · cases h3
     | true =>
      obtain ⟨D, D', e1, e2, e3, e4⟩ := tail _ rfl rfl
      simp -implicitDefEqProofs only [hat, e1, e2, zy4, h54, h54.symm, evF, ↓evZ, implies_true, seval, tf_Q2_84]
      rw [← e3] at e4
      exact e4
   · simp -implicitDefEqProofs only [decide_true, h5, decide_false, beq_self_eq_true, zy4, h54, h54.symm, evF, ↓evZ, implies_true, seval, tf_Q2_84]
     refine hcw.to ?_
     cases r with
     | false =>
      simp -implicitDefEqProofs only [zy4, h54, h54.symm, evF, ↓evZ, implies_true, seval, tf_Q2_84]
      unfold bnd at h3
      split at h3
      · cases h3
        exact hfin _ _
      · cases h3
     | true =>
      obtain ⟨D, D', e1, e2, e3, e4⟩ := tail _ rfl rfl
      simp -implicitDefEqProofs only [hat, e1, e2, zy4, h54, h54.symm, evF, ↓evZ, implies_true, seval, tf_Q2_84]
      rw [← e3] at e4
      exact e4
 · subst h2
   have hsw := hswap h1 rfl
   simp only [UFN, Tm.av_mk] at hsw
   simp -implicitDefEqProofs only [decide_true, h1, decide_false, beq_self_eq_true, zy4, h54, h54.symm, evF, ↓evZ, implies_true, seval, tf_Q2_84]
   refine (hsw _ (hS' _ _)).mono ?_
   rintro _ s2 ⟨rfl, hp⟩
   simp -implicitDefEqProofs only [zy4, h54, h54.symm, evF, ↓evZ, implies_true, seval, tf_Q2_84]
   exact (hQ _ _).trans hp
 · rw [headEq_iff] at h3
   simp only [Tm.k, Tm.n, Tm.s, Tm.ts] at h3
   obtain ⟨rfl, rfl, rfl, hlen⟩ := h3
   have hlen' : decide ((tsa.length : Int) = (tsb.length : Int)) = true := by simp [hlen]
   simp -implicitDefEqProofs only [decide_true, decide_false, hlen', beq_self_eq_true, zy4, h54, h54.symm, List.length_map, h1, evF, ↓evZ, implies_true, seval, tf_Q2_84]
   have hS0 := hS' (.cells [.int .i64 ka, .int .i64 na, .str sa, .slice (tsa.map Tm.av)]) (.cells [.int .i64 ka, .int .i64 na, .str sa, .slice (tsb.map Tm.av)])
   have hQ0 := hQ (.cells [.int .i64 ka, .int .i64 na, .str sa, .slice (tsa.map Tm.av)]) (.cells [.int .i64 ka, .int .i64 na, .str sa, .slice (tsb.map Tm.av)])
   have e4 : ((st.upd b4 (.cells [.int .i64 ka, .int .i64 na, .str sa, .slice (tsa.map Tm.av)])).upd b5 (.cells [.int .i64 ka, .int .i64 na, .str sa, .slice (tsb.map Tm.av)])) b4 = some (.cells [.int .i64 ka, .int .i64 na, .str sa, .slice (tsa.map Tm.av)]) := by rw [zy7.upd_ne _ _ h54.symm, zy7.upd_same]
   have e5 : ((st.upd b4 (.cells [.int .i64 ka, .int .i64 na, .str sa, .slice (tsa.map Tm.av)])).upd b5 (.cells [.int .i64 ka, .int .i64 na, .str sa, .slice (tsb.map Tm.av)])) b5 = some (.cells [.int .i64 ka, .int .i64 na, .str sa, .slice (tsb.map Tm.av)]) := zy7.upd_same _ _ _
   generalize (st.upd b4 (.cells [.int .i64 ka, .int .i64 na, .str sa, .slice (tsa.map Tm.av)])).upd b5 (.cells [.int .i64 ka, .int .i64 na, .str sa, .slice (tsb.map Tm.av)]) = s0 at *
   refine zy5 (σ := Sub × List Int × zy7) [1000000, 3, 4] [2, 3, 4] tsa
    (fun i p => IsGood p.1 ∧ AllS (OkX N) p.1 ∧ AN N bb s0 p.1 p.2.2 ∧ unisF g p.1 (tsa.drop i) (tsb.drop i) = some (r, σ', p.2.1))
    (fun i _ => [(6, .bool false), (7, .int .i64 i)]) (fun _ p => p.2.2) (by decide +kernel)
    ⟨(σ, add, s0), ⟨hg, hok, AN.refl hS0, h4⟩, zx7.mk (by simp -implicitDefEqProofs only [zy4, h54, h54.symm, List.length_map, h1, evF, ↓evZ, implies_true, seval, tf_Q2_84])⟩ (fun i x p hx hlt hlt' hdr hinv => ?_) (fun p hge hinv => ?_)
   case refine_2 =>
    obtain ⟨σi, rest, si⟩ := p
    obtain ⟨i1, i2, i3, i5⟩ := hinv
    simp only at i1 i2 i3 i5
    have f4 := i3.2 b4 _ e4 h4b
    rw [List.drop_length, hlen, List.drop_length] at i5
    simp only [unisF, Option.some.injEq, Prod.mk.injEq] at i5
    obtain ⟨rfl, rfl, rfl⟩ := i5
    simp -implicitDefEqProofs only [hge, zy4, f4, List.length_map, evF, ↓evZ, implies_true, seval, tf_Q2_84]
    exact hQ0.trans i3
   obtain ⟨σi, rest, si⟩ := p
   obtain ⟨i1, i2, i3, i5⟩ := hinv
   simp only at i1 i2 i3 i5
   obtain ⟨y, hy⟩ : ∃ y, tsb[i]? = some y := ⟨_, List.getElem?_eq_getElem (by omega)⟩
   have hdr' : tsb.drop i = y :: tsb.drop (i + 1) := by
    obtain ⟨h1, h2⟩ := List.getElem?_eq_some_iff.1 hy
    rw [List.drop_eq_getElem_cons h1, h2]
   rw [hdr, hdr', unisF] at i5
   have f4 := i3.2 b4 _ e4 h4b
   have f5 := i3.2 b5 _ e5 h5b
   have hw := wrap64 (n := (i : Int) + 1) (by omega) (by omega)
   simp -implicitDefEqProofs only [hlt', zy4, h54, h54.symm, List.length_map, h1, f4, f5, ev_at (av := Tm.av) eI_29 hx (Tm.av_width x), ev_at (av := Tm.av) eI_29 hy (Tm.av_width y), evF, ↓evZ, implies_true, seval, tf_Q2_84]
   refine wP [(0, 1), (2, 1), (5, 1), (7, 1), (10, 1), (1, 2), (3, 1), (4, 2), (6, 2), (8, 1), (9, 2), (11, 0), (12, 1)] [0, 2, 5, 7, 10, 1, 3, 4, 6, 8, 9, 12] mixed ?_
   simp -implicitDefEqProofs only [zy4, h54, h54.symm, List.length_map, h1, f4, f5, ev_at (av := Tm.av) eI_29 hx (Tm.av_width x), ev_at (av := Tm.av) eI_29 hy (Tm.av_width y), evF, ↓evZ, implies_true, seval, tf_Q2_84]
   cases hu : uniF g σi x y with
   | none => rw [hu] at i5; cases i5
   | some p1 =>
    obtain ⟨r1, σ1, tr1⟩ := p1
    rw [hu] at i5
    have hx1 : OkX N x := hka h1 x (List.mem_of_getElem? hx)
    have hy1 : OkX N y := hkb h2 y (List.mem_of_getElem? hy)
    have hU := uniF_uni i1 hu
    have hA := (uni_all (okX_kids N) g).1 σi x y r1 σ1 tr1 i1 hu i2 hx1 hy1
    refine (IH σi x y r1 σ1 tr1 i1 i2 hx1 hy1 hu si i3.1).mono ?_
    rintro _ s2 ⟨rfl, hp2⟩
    cases r1 with
    | false =>
     simp only [Option.some.injEq, Prod.mk.injEq] at i5
     obtain ⟨rfl, rfl, rfl⟩ := i5
     simp -implicitDefEqProofs only [zy4, h54, h54.symm, List.length_map, h1, f4, f5, ev_at (av := Tm.av) eI_29 hx (Tm.av_width x), ev_at (av := Tm.av) eI_29 hy (Tm.av_width y), evF, ↓evZ, implies_true, seval, tf_Q2_84]
     exact hQ0.trans (i3.trans hp2)
    | true =>
     simp only at i5
     cases hu2 : unisF g σ1 (tsa.drop (i + 1)) (tsb.drop (i + 1)) with
     | none => rw [hu2] at i5; cases i5
     | some p2 =>
      obtain ⟨r2, σ2, tr2⟩ := p2
      rw [hu2] at i5
      simp only [Option.some.injEq, Prod.mk.injEq] at i5
      obtain ⟨rfl, rfl, _⟩ := i5
      simp -implicitDefEqProofs only [zy4, h54, h54.symm, List.length_map, h1, f4, f5, ev_at (av := Tm.av) eI_29 hx (Tm.av_width x), ev_at (av := Tm.av) eI_29 hy (Tm.av_width y), evF, ↓evZ, implies_true, seval, tf_Q2_84]
      exact ⟨(σ1, tr2, s2), ⟨hU.good, hA, i3.trans hp2, hu2⟩, zx7.mk (by simp -implicitDefEqProofs only [hw, zy4, h54, h54.symm, List.length_map, h1, f4, f5, ev_at (av := Tm.av) eI_29 hx (Tm.av_width x), ev_at (av := Tm.av) eI_29 hy (Tm.av_width y), evF, ↓evZ, implies_true, seval, tf_Q2_84])⟩
 · have hd : ka = kb → na = nb → sa = sb' → ¬ (tsa.length : Int) = (tsb.length : Int) := by
    intro e1 e2 e3 e4
    have : headEq (Tm.mk ka na sa tsa) (Tm.mk kb nb sb' tsb) = true := headEq_iff.2 ⟨e1, e2, e3, by simp only [Tm.ts]; omega⟩
    rw [h3] at this; cases this
   by_cases e1 : ka = kb
   · by_cases e2 : na = nb
     · by_cases e3 : sa = sb'
       · have e4 := hd e1 e2 e3
         subst e1 e2 e3
         simp -implicitDefEqProofs only [decide_false, decide_true, beq_self_eq_true, zy4, h54, h54.symm, h1, List.length_map, e4, evF, ↓evZ, implies_true, seval, tf_Q2_84]
         exact hfin _ _
       · subst e1 e2
         simp -implicitDefEqProofs only [decide_false, decide_true, beq_self_eq_true, zy4, h54, h54.symm, h1, List.length_map, e3, evF, ↓evZ, implies_true, seval, tf_Q2_84]
         exact hfin _ _
     · subst e1
       simp -implicitDefEqProofs only [decide_false, decide_true, beq_self_eq_true, zy4, h54, h54.symm, h1, List.length_map, e2, evF, ↓evZ, implies_true, seval, tf_Q2_84]
       exact hfin _ _
   · clear hd
     simp -implicitDefEqProofs only [decide_false, decide_true, beq_self_eq_true, zy4, h54, h54.symm, h1, h2, List.length_map, e1, evF, ↓evZ, implies_true, seval, tf_Q2_84]
     exact hfin _ _
theorem cN_l3Unify (N : Nat) (hN : N ≤ 1048576) (bb : Nat) : ∀ (g : Nat) (σ : Sub) (a b : Tm) (r : Bool) (σ' : Sub) (add : List Int), IsGood σ → AllS (OkX N) σ → OkX N a → OkX N b → uniF g σ a b = some (r, σ', add) → UFN N 84 bb σ a b r σ'
 | 0, σ, a, b, r, σ', add, hg, hok, ha, hb, h => by simp only [uniF] at h; cases h
 | g + 1, σ, a, b, r, σ', add, hg, hok, ha, hb, h => by
  refine l3UN_body N hN g bb (cN_l3Unify N hN bb g) σ a b r σ' add hg hok ha hb h fun h1 h2 => ?_
  obtain ⟨rk, B, G⟩ := hg.rs
  obtain ⟨fa, wa⟩ := G.wk a
  obtain ⟨fb, wb⟩ := G.wk b
  have eb := wk_wk wb
  have ea := wk_wk wa
  have hbn : bnd σ (wk σ b).n (wk σ a) = (r, σ', add) := by
   rcases uniF_cases h with h | h | h | h | h
   · exact absurd h.1 h1
   · exact absurd h.1 h1
   · exact h.2.2
   · exact absurd h2 h.2.1
   · exact absurd h2 h.2.1
  refine l3UN_body N hN 0 bb (fun σ a b r σ' add _ _ _ _ h => by simp only [uniF] at h; cases h) σ (wk σ b) (wk σ a) r σ' add hg hok (wb.all (p := OkX N) hok hb) (wa.all (p := OkX N) hok ha) ?_ fun h3 => ?_
  · rw [uniF, eb, ea, if_neg (fun h => h1 h.2.1), if_pos h2, hbn]
  · rw [eb] at h3; exact absurd h2 h3
theorem argCG_R (σ : Sub) (x y z : Tm) : argCG σ x y z = if (argR x y).2 = 0 then uniCG σ z (argR x y).1 else ((argR x y).2, σ, []) := by
 unfold argCG argR
 split
 · simp
 split
 · simp
 cases argT x y <;> rfl
def SolveN (N bb : Nat) (st : zy7) (x : Int × Sub × List Int) (r : AV) (st' : zy7) : Prop := r = .int .i64 x.1 ∧ AN N bb st x.2.1 st'
theorem SolveN.same {N bb : Nat} {st : zy7} {σ : Sub} {r : AV} (h : ArrN N st bb σ) (k : Int) (hr : r = .int .i64 k) : SolveN N bb st (k, σ, []) r st := ⟨hr, AN.refl h⟩
theorem cN_l3UnifyG {N : Nat} (hN : N ≤ 1048576) {σ : Sub} (hg : IsGood σ) (ho : AllS (OkX N) σ) (a b : Tm) (ha : OkX N a) (hb : OkX N b) (bb : Nat) (st : zy7) (hS : ArrN N st bb σ) :
 zq7 prog 84 [a.av, b.av, .mslice bb 0 N 4] st (fun r st' => r = .bool (uniG σ a b).1 ∧ AN N bb st (uniG σ a b).2.1 st') := by
 obtain ⟨r, σ', tr', hU⟩ := uniG_of hg ho ha hb
 obtain ⟨g, hrun⟩ := hU.run
 rw [hU.eq]
 exact cN_l3Unify N hN bb g σ a b r σ' tr' hg ho ha hb hrun st hS
abbrev tf_Sg_63 := zi tI_3 (zi zI_3 (zi underlying3 (zi tI_4 (zi zI_4 (zi underlying4 (zi tI_9 (zi zI_9 (zi underlying9 (zi tI_29 (zi zI_29 (zi eI_29 (zi eB_29 (zi eZ_29 (zi underlying29 (zi tI_56 (zi zI_56 (zi fI_56_0 (zi fI_56_1 (zi fI_56_2 (zi fI_56_3 bI_56))))))))))))))))))))
theorem cN_l5Solve {N : Nat} (hN : N ≤ 1048576) {σ : Sub} (hg : IsGood σ) (ho : AllS (OkX N) σ) (n : Int) (s : ByteArray) (ks : List Tm) (hb : isBuiltin s (ks.length : Int) = true) (hne : s ≠ ⟨#[92, 61]⟩) (hv : ∀ x ∈ ks, OkX N x) (bb : Nat) (st : zy7) (hS : ArrN N st bb σ) :
 zq7 prog 63 [(Tm.mk 3 n s ks).av, .mslice bb 0 N 4] st (SolveN N bb st (solveG σ s ks)) := by
 have hcs := bi_cases hb
 have hcpd := fun x y (hxy : ks = [x, y]) => c_l5Compare n s x y (hv x (by simp [hxy])).1 (hv y (by simp [hxy])).1
 have hcarg := fun x y z (hxy : ks = [x, y, z]) => c_l5Arg n s x y z (hv y (by simp [hxy])).1
 have hctest := fun x (hxy : ks = [x]) h => c_l5Test n s x h
 simp only [Tm.av_mk] at hcpd hcarg hctest ⊢
 refine wF [1000000] 2 func63 ntmps63 rfl rfl ?_
 intro _
 simp -implicitDefEqProofs only [List.length_map, evF, ↓evZ, implies_true, seval, tf_Sg_63]
 refine zq4 (fun h => ?_) (fun h => ?_)
 · have hs : s = ⟨#[116, 114, 117, 101]⟩ := by simpa using h
   have hk := kids0 (ts := ks) (by subst hs; simpa [isBuiltin] using hb)
   subst hk
   simp -implicitDefEqProofs only [List.length_map, evF, ↓evZ, implies_true, seval, tf_Sg_63]
   exact SolveN.same hS _ (by simp [codeB, hs])
 have ht : s ≠ ⟨#[116, 114, 117, 101]⟩ := by simpa using h
 simp -implicitDefEqProofs only [List.length_map, evF, ↓evZ, implies_true, seval, tf_Sg_63]
 refine zq4 (fun h => ?_) (fun h => ?_)
 · have hs : s = ⟨#[102, 97, 105, 108]⟩ := by simpa using h
   have hk := kids0 (ts := ks) (by subst hs; simpa [isBuiltin] using hb)
   subst hk
   simp -implicitDefEqProofs only [List.length_map, evF, ↓evZ, implies_true, seval, tf_Sg_63]
   exact SolveN.same hS _ (by simp [codeB, hs])
 have hf : s ≠ ⟨#[102, 97, 105, 108]⟩ := by simpa using h
 simp -implicitDefEqProofs only [List.length_map, evF, ↓evZ, implies_true, seval, tf_Sg_63]
 refine zq4 (fun h => ?_) (fun h => ?_)
 · have hs : s = ⟨#[61]⟩ := by simpa using h
   obtain ⟨x, y, rfl⟩ := kids2 (ts := ks) (by subst hs; simp [isBuiltin] at hb; omega)
   have e : solveG σ s [x, y] = uniCG σ x y := by subst hs; rfl
   rw [e]
   have hat0 : aIndexAddr prog 29 (.slice [x.av, y.av]) (.int .i64 0) = some (.pptr x.av) := ev_at (av := Tm.av) (l := [x, y]) (i := 0) eI_29 rfl (Tm.av_width x)
   have hat1 : aIndexAddr prog 29 (.slice [x.av, y.av]) (.int .i64 1) = some (.pptr y.av) := ev_at (av := Tm.av) (l := [x, y]) (i := 1) eI_29 rfl (Tm.av_width y)
   simp -implicitDefEqProofs only [hat0, hat1, Tm.av_agg, Tm.av_width, evF, ↓evZ, implies_true, seval, tf_Sg_63]
   refine wX [(0, 1), (1, 1), (2, 1), (3, 1), (4, 1), (5, 1), (6, 1), (7, 1), (8, 1), (9, 0), (10, 0), (11, 1)] [0, 1, 2, 3, 4, 5, 6, 7, 8, 11] none0' mixed rfl ext_none ?_
   simp -implicitDefEqProofs only [hat0, hat1, Tm.av_agg, Tm.av_width, evF, ↓evZ, implies_true, seval, tf_Sg_63]
   refine (cN_l3UnifyG hN hg ho x y (hv x (by simp)) (hv y (by simp)) bb _ hS).mono ?_
   rintro _ s2 ⟨rfl, hP⟩
   simp -implicitDefEqProofs only [hat0, hat1, Tm.av_agg, Tm.av_width, evF, ↓evZ, implies_true, seval, tf_Sg_63]
   refine ⟨ext_none, ?_⟩
   refine (c_l5Code _ _).to ?_
   simp -implicitDefEqProofs only [hat0, hat1, Tm.av_agg, Tm.av_width, evF, ↓evZ, implies_true, seval, tf_Sg_63]
   exact ⟨ext_none, rfl, hP⟩
 have he : s ≠ ⟨#[61]⟩ := by simpa using h
 simp -implicitDefEqProofs only [List.length_map, evF, ↓evZ, implies_true, seval, tf_Sg_63]
 refine zq4 (fun h => absurd (by simpa using h) hne) (fun h => ?_)
 simp -implicitDefEqProofs only [List.length_map, evF, ↓evZ, implies_true, seval, tf_Sg_63]
 refine zq4 (fun h => ?_) (fun h => ?_)
 · have hs : s = ⟨#[61, 61]⟩ := by simpa using h
   obtain ⟨x, y, rfl⟩ := kids2 (ts := ks) (by subst hs; simp [isBuiltin] at hb; omega)
   have e : solveG σ s [x, y] = (codeB (x.same y), σ, []) := by subst hs; rfl
   rw [e]
   have hat0 : aIndexAddr prog 29 (.slice [x.av, y.av]) (.int .i64 0) = some (.pptr x.av) := ev_at (av := Tm.av) (l := [x, y]) (i := 0) eI_29 rfl (Tm.av_width x)
   have hat1 : aIndexAddr prog 29 (.slice [x.av, y.av]) (.int .i64 1) = some (.pptr y.av) := ev_at (av := Tm.av) (l := [x, y]) (i := 1) eI_29 rfl (Tm.av_width y)
   simp -implicitDefEqProofs only [hat0, hat1, Tm.av_agg, Tm.av_width, evF, ↓evZ, implies_true, seval, tf_Sg_63]
   refine arun_drawA mixed (by decide +kernel) (by decide +kernel) ?_
   simp -implicitDefEqProofs only [hat0, hat1, Tm.av_agg, Tm.av_width, evF, ↓evZ, implies_true, seval, tf_Sg_63]
   refine zw4 (c_spec_TermSame x y _) ?_
   simp -implicitDefEqProofs only [hat0, hat1, Tm.av_agg, Tm.av_width, evF, ↓evZ, implies_true, seval, tf_Sg_63]
   refine zw4 (c_l5Code _ _) ?_
   simp -implicitDefEqProofs only [hat0, hat1, Tm.av_agg, Tm.av_width, evF, ↓evZ, implies_true, seval, tf_Sg_63]
   exact SolveN.same hS _ rfl
 have hee : s ≠ ⟨#[61, 61]⟩ := by simpa using h
 simp -implicitDefEqProofs only [List.length_map, evF, ↓evZ, implies_true, seval, tf_Sg_63]
 refine zq4 (fun h => ?_) (fun h => ?_)
 · have hs : s = ⟨#[105, 115]⟩ := by simpa using h
   obtain ⟨x, y, rfl⟩ := kids2 (ts := ks) (by subst hs; simp [isBuiltin] at hb; omega)
   have e : solveG σ s [x, y] = if y.ev.2 ≠ 0 then (y.ev.2, σ, []) else uniCG σ x (itm y.ev.1) := by subst hs; rfl
   rw [e]
   have hy := hv y (by simp)
   have hin := itm_okX (N := N) (Tm.ev_in y hy.1)
   have har := fun st => c_l5Arith y st hy.1
   generalize y.ev.1 = a at *
   generalize y.ev.2 = ca at *
   have hat0 : aIndexAddr prog 29 (.slice [x.av, y.av]) (.int .i64 0) = some (.pptr x.av) := ev_at (av := Tm.av) (l := [x, y]) (i := 0) eI_29 rfl (Tm.av_width x)
   have hat1 : aIndexAddr prog 29 (.slice [x.av, y.av]) (.int .i64 1) = some (.pptr y.av) := ev_at (av := Tm.av) (l := [x, y]) (i := 1) eI_29 rfl (Tm.av_width y)
   simp -implicitDefEqProofs only [hat0, hat1, Tm.av_agg, Tm.av_width, evF, ↓evZ, implies_true, seval, tf_Sg_63]
   refine (har _).to ?_
   simp -implicitDefEqProofs only [hat0, hat1, Tm.av_agg, Tm.av_width, evF, ↓evZ, implies_true, seval, tf_Sg_63]
   refine zq4 (fun h4 => ?_) (fun h4 => ?_)
   · simp -implicitDefEqProofs only [hat0, hat1, Tm.av_agg, Tm.av_width, evF, ↓evZ, implies_true, seval, tf_Sg_63]
     have h4' : ca ≠ 0 := by simpa using h4
     rw [if_pos h4']
     exact SolveN.same hS _ rfl
   have h4' : ca = 0 := by simpa using h4
   subst h4'
   rw [if_neg (by simp)]
   simp -implicitDefEqProofs only [hat0, hat1, Tm.av_agg, Tm.av_width, evF, ↓evZ, implies_true, seval, tf_Sg_63]
   refine wX [(0, 1), (1, 1), (2, 1), (3, 1), (4, 1), (6, 1), (5, 0), (7, 0), (8, 0), (9, 1)] [0, 1, 2, 3, 4, 6, 9] none0' mixed rfl ext_none ?_
   simp -implicitDefEqProofs only [hat0, hat1, Tm.av_agg, Tm.av_width, evF, ↓evZ, implies_true, seval, tf_Sg_63]
   refine (c_l1Int a _).to ?_
   rw [← itm_av]
   simp -implicitDefEqProofs only [hat0, hat1, Tm.av_agg, Tm.av_width, evF, ↓evZ, implies_true, seval, tf_Sg_63]
   refine ⟨ext_none, ?_⟩
   refine (cN_l3UnifyG hN hg ho x (itm a) (hv x (by simp)) hin bb _ hS).mono ?_
   rintro _ s2 ⟨rfl, hP⟩
   simp -implicitDefEqProofs only [hat0, hat1, Tm.av_agg, Tm.av_width, evF, ↓evZ, implies_true, seval, tf_Sg_63]
   refine ⟨ext_none, ?_⟩
   refine (c_l5Code _ _).to ?_
   simp -implicitDefEqProofs only [hat0, hat1, Tm.av_agg, Tm.av_width, evF, ↓evZ, implies_true, seval, tf_Sg_63]
   exact ⟨ext_none, rfl, hP⟩
 have his : s ≠ ⟨#[105, 115]⟩ := by simpa using h
 simp -implicitDefEqProofs only [List.length_map, evF, ↓evZ, implies_true, seval, tf_Sg_63]
 refine zq4 (fun h => ?_) (fun h => ?_)
 · have hs : s = ⟨#[97, 114, 103]⟩ := by simpa using h
   obtain ⟨x, y, z, rfl⟩ := kids3 (ts := ks) (by subst hs; simp [isBuiltin] at hb; omega)
   have e : solveG σ s [x, y, z] = argCG σ x y z := rfl
   rw [e, argCG_R]
   have hz := hv z (by simp)
   have hy := hv y (by simp)
   have hga := hcarg x y z rfl
   have hgv : (argR x y).2 = 0 → OkX N (argR x y).1 := fun h => by
    unfold argR at h ⊢
    split at h
    · cases h
    rename_i h1
    rw [if_neg h1]
    split at h
    · cases h
    rename_i h2
    rw [if_neg h2]
    cases hu : argT x y with
    | none => rw [hu] at h; cases h
    | some u => exact okX_kids N y (fun h => h1 (.inr h)) hy u (argT_mem hu)
   generalize (argR x y).1 = u at *
   generalize (argR x y).2 = cu at *
   have hat2 : aIndexAddr prog 29 (.slice [x.av, y.av, z.av]) (.int .i64 2) = some (.pptr z.av) := ev_at (av := Tm.av) (l := [x, y, z]) (i := 2) eI_29 rfl (Tm.av_width z)
   simp only [List.map_cons, List.map_nil] at hga
   simp -implicitDefEqProofs only [hat2, Tm.av_agg, Tm.av_width, Tm.av_junk, Tm.av_store, evF, ↓evZ, implies_true, seval, tf_Sg_63]
   refine (hga _).to ?_
   simp -implicitDefEqProofs only [hat2, Tm.av_agg, Tm.av_width, Tm.av_junk, Tm.av_store, evF, ↓evZ, implies_true, seval, tf_Sg_63]
   refine zq4 (fun h4 => ?_) (fun h4 => ?_)
   · simp -implicitDefEqProofs only [hat2, Tm.av_agg, Tm.av_width, Tm.av_junk, Tm.av_store, evF, ↓evZ, implies_true, seval, tf_Sg_63]
     have h4' : cu ≠ 0 := by simpa using h4
     rw [if_neg h4']
     exact SolveN.same hS _ rfl
   have h4' : cu = 0 := by simpa using h4
   subst h4'
   rw [if_pos rfl]
   simp -implicitDefEqProofs only [hat2, Tm.av_agg, Tm.av_width, Tm.av_junk, Tm.av_store, evF, ↓evZ, implies_true, seval, tf_Sg_63]
   refine wX [(0, 1), (1, 1), (2, 1), (3, 1), (4, 1), (5, 1), (6, 0), (7, 0), (8, 1)] [0, 1, 2, 3, 4, 5, 8] none0' mixed rfl ext_none ?_
   simp -implicitDefEqProofs only [hat2, Tm.av_agg, Tm.av_width, Tm.av_junk, Tm.av_store, evF, ↓evZ, implies_true, seval, tf_Sg_63]
   refine (cN_l3UnifyG hN hg ho z u hz (hgv rfl) bb _ hS).mono ?_
   rintro _ s2 ⟨rfl, hP⟩
   simp -implicitDefEqProofs only [hat2, Tm.av_agg, Tm.av_width, Tm.av_junk, Tm.av_store, evF, ↓evZ, implies_true, seval, tf_Sg_63]
   refine ⟨ext_none, ?_⟩
   refine (c_l5Code _ _).to ?_
   simp -implicitDefEqProofs only [hat2, Tm.av_agg, Tm.av_width, Tm.av_junk, Tm.av_store, evF, ↓evZ, implies_true, seval, tf_Sg_63]
   exact ⟨ext_none, rfl, hP⟩
 have harg : s ≠ ⟨#[97, 114, 103]⟩ := by simpa using h
 simp -implicitDefEqProofs only [List.length_map, evF, ↓evZ, implies_true, seval, tf_Sg_63]
 refine (c_l5Compares s _).to ?_
 simp -implicitDefEqProofs only [List.length_map, evF, ↓evZ, implies_true, seval, tf_Sg_63]
 refine zq4 (fun h => ?_) (fun h => ?_)
 · have hlen : ks.length = 2 := by
    rcases hcs with ⟨h2, h3⟩ | ⟨h2, h3⟩ | ⟨h2, h3⟩ | ⟨h2, h3⟩
    · exact h2
    · simp [ht, hf] at h3
    · rcases h3 with rfl | rfl | rfl | rfl <;> exact absurd h (by decide)
    · exact absurd h3 harg
   obtain ⟨x, y, rfl⟩ := kids2 hlen
   have e : solveG σ s [x, y] = (cmpC s x y, σ, []) := by simp only [solveG]; rw [if_pos h]
   rw [e]
   have hc := hcpd x y rfl
   simp only [List.map_cons, List.map_nil] at hc
   simp -implicitDefEqProofs only [List.length_map, evF, ↓evZ, implies_true, seval, tf_Sg_63]
   refine (hc _).to ?_
   simp -implicitDefEqProofs only [List.length_map, evF, ↓evZ, implies_true, seval, tf_Sg_63]
   exact SolveN.same hS _ rfl
 · have hlen : ks.length = 1 ∧ (s = ⟨#[118, 97, 114]⟩ ∨ s = ⟨#[110, 111, 110, 118, 97, 114]⟩ ∨ s = ⟨#[97, 116, 111, 109]⟩ ∨ s = ⟨#[105, 110, 116]⟩) := by
    rcases hcs with ⟨h2, h3⟩ | ⟨h2, h3⟩ | ⟨h2, h3⟩ | ⟨h2, h3⟩
    · simp [h, he, hne, hee, his] at h3
    · simp [ht, hf] at h3
    · exact ⟨h2, h3⟩
    · exact absurd h3 harg
   obtain ⟨x, rfl⟩ := kids1 hlen.1
   have e : solveG σ s [x] = (codeB (testB s x), σ, []) := rfl
   rw [e]
   have hc := hctest x rfl hlen.2
   simp only [List.map_cons, List.map_nil] at hc
   simp -implicitDefEqProofs only [List.length_map, evF, ↓evZ, implies_true, seval, tf_Sg_63]
   refine (hc _).to ?_
   simp -implicitDefEqProofs only [List.length_map, evF, ↓evZ, implies_true, seval, tf_Sg_63]
   exact SolveN.same hS _ rfl
theorem arrN_fits (N : Nat) (σ : Sub) : appFit 4 (arrN N σ) := by
 intro e h
 simp only [arrN, List.mem_map] at h
 obtain ⟨i, _, rfl⟩ := h
 refine ⟨cellOf_width _, ?_⟩
 cases σ (i : Int) with
 | none => rfl
 | some u => exact Tm.av_store u
theorem arrN_junk (N : Nat) (σ : Sub) : ∀ e ∈ arrN N σ, e.isJunk = false := by
 intro e h
 simp only [arrN, List.mem_map] at h
 obtain ⟨i, _, rfl⟩ := h
 cases σ (i : Int) with
 | none => rfl
 | some u => exact Tm.av_junk u
theorem arrN_len (N : Nat) (σ : Sub) : (arrN N σ).length = N := by simp [arrN]
theorem app_arrN {N : Nat} (h0 : 0 < N) (hN : N ≤ 1048576) (σ : Sub) {st : zy7} {K : AV → zy7 → Prop} (hK : ∀ b, st b = none → ArrN N (st.upd b (.cells ((arrN N σ).flatMap AV.cells))) b σ → K (.mslice b 0 N 4) (st.upd b (.cells ((arrN N σ).flatMap AV.cells)))) :
 aAppend prog 29 st (.fslice []) (.slice (arrN N σ)) K := by
 have hl := arrN_len N σ
 refine acc_append (P := prog) (st := st) (b := 0) (l := []) (xs := arrN N σ) (x := .slice (arrN N σ)) (K := K) eI_29 eB_29 eZ_29 rfl rfl (arrN_fits N σ) (by simp) (by simp) (by simp only [List.length_nil, hl]; omega) (by simp only [List.length_nil, hl]; omega) (fun b hb => ?_)
 have hne : [] ++ arrN N σ ≠ [] := by
  rw [List.nil_append]
  intro e
  rw [e] at hl
  simp at hl
  omega
 rw [accV_cons hne, accS_cons hne, List.nil_append, hl]
 exact hK b (hb hne) (zy7.upd_same _ _ _)
theorem cN_l5SolveNe {N : Nat} (h0 : 0 < N) (hN : N ≤ 1048576) {σ : Sub} (hg : IsGood σ) (ho : AllS (OkX N) σ) (n : Int) (s : ByteArray) (x y : Tm) (hs : s = ⟨#[92, 61]⟩) (hx : OkX N x) (hy : OkX N y) (st : zy7) :
 zq7 prog 63 [(Tm.mk 3 n s [x, y]).av, .slice (arrN N σ)] st (fun r st' => r = .int .i64 (codeB (!(uniG σ x y).1)) ∧ st' = st) := by
 have ht : s ≠ ⟨#[116, 114, 117, 101]⟩ := by subst hs; decide
 have hf : s ≠ ⟨#[102, 97, 105, 108]⟩ := by subst hs; decide
 have he : s ≠ ⟨#[61]⟩ := by subst hs; decide
 refine zq7.done ?_
 simp only [Tm.av_mk 3, List.map_cons, List.map_nil]
 refine wF [1000000] 2 func63 ntmps63 rfl rfl ?_
 intro _
 have hat0 : aIndexAddr prog 29 (.slice [x.av, y.av]) (.int .i64 0) = some (.pptr x.av) := ev_at (av := Tm.av) (l := [x, y]) (i := 0) eI_29 rfl (Tm.av_width x)
 have hat1 : aIndexAddr prog 29 (.slice [x.av, y.av]) (.int .i64 1) = some (.pptr y.av) := ev_at (av := Tm.av) (l := [x, y]) (i := 1) eI_29 rfl (Tm.av_width y)
 simp -implicitDefEqProofs only [hat0, hat1, Tm.av_agg, Tm.av_width, evF, ↓evZ, implies_true, seval, tf_Sg_63]
 refine zq4 (fun h => absurd (by simpa using h) ht) (fun h => ?_)
 simp -implicitDefEqProofs only [hat0, hat1, Tm.av_agg, Tm.av_width, evF, ↓evZ, implies_true, seval, tf_Sg_63]
 refine zq4 (fun h => absurd (by simpa using h) hf) (fun h => ?_)
 simp -implicitDefEqProofs only [hat0, hat1, Tm.av_agg, Tm.av_width, evF, ↓evZ, implies_true, seval, tf_Sg_63]
 refine zq4 (fun h => absurd (by simpa using h) he) (fun h => ?_)
 simp -implicitDefEqProofs only [hat0, hat1, Tm.av_agg, Tm.av_width, evF, ↓evZ, implies_true, seval, tf_Sg_63]
 refine zq4 (fun h => ?_) (fun h => absurd hs (by simpa using h))
 simp -implicitDefEqProofs only [hat0, hat1, Tm.av_agg, Tm.av_width, evF, ↓evZ, implies_true, seval, tf_Sg_63]
 refine wX [(0, 1), (1, 1), (2, 1), (3, 1), (4, 1), (5, 1), (6, 1), (7, 1), (8, 1), (9, 1), (10, 0), (11, 0), (12, 1), (13, 0), (14, 1)] [0, 1, 2, 3, 4, 5, 6, 7, 8, 9, 12, 14] none0' mixed rfl ext_none ?_
 simp -implicitDefEqProofs only [hat0, hat1, Tm.av_agg, Tm.av_width, evF, ↓evZ, implies_true, seval, tf_Sg_63]
 refine app_arrN h0 hN σ fun b hb hA0 => ?_
 have hD0 : Drops (st.upd b (.cells ((arrN N σ).flatMap AV.cells))) st := (Drops.refl _).upd hb
 generalize st.upd b (.cells ((arrN N σ).flatMap AV.cells)) = s0 at *
 simp -implicitDefEqProofs only [hat0, hat1, Tm.av_agg, Tm.av_width, evF, ↓evZ, implies_true, seval, tf_Sg_63]
 refine ⟨ext_none, ?_⟩
 refine (cN_l3UnifyG hN hg ho x y hx hy b _ hA0).mono ?_
 rintro _ s2 ⟨rfl, hA, hk⟩
 simp -implicitDefEqProofs only [hat0, hat1, Tm.av_agg, Tm.av_width, evF, ↓evZ, implies_true, seval, tf_Sg_63]
 refine ⟨ext_none, ?_⟩
 refine (c_l5Code _ _).to ?_
 simp -implicitDefEqProofs only [hat0, hat1, Tm.av_agg, Tm.av_width, evF, ↓evZ, implies_true, seval, tf_Sg_63]
 refine ⟨ext_none, rfl, fun q => ?_⟩
 have key : ∀ o, st q = some o → s2 q = some o := fun o h => hk q o ((hD0 q).2 o h) (by rintro rfl; rw [hb] at h; cases h)
 refine ⟨fun h => ?_, key⟩
 cases hq : st q with
 | none => rfl
 | some o => rw [key o hq] at h; cases h
theorem cN_l5Solve2 {N : Nat} (h0 : 0 < N) (hN : N ≤ 1048576) {σ : Sub} (hg : IsGood σ) (ho : AllS (OkX N) σ) (n : Int) (s : ByteArray) (ks : List Tm) (hb : isBuiltin s (ks.length : Int) = true) (hv : ∀ x ∈ ks, OkX N x) (bb : Nat) (st : zy7) (hS : ArrN N st bb σ) :
 zq7 prog 63 [(Tm.mk 3 n s ks).av, .mslice bb 0 N 4] st (SolveN N bb st (solveG σ s ks)) := by
 by_cases hs : s = ⟨#[92, 61]⟩
 · obtain ⟨x, y, rfl⟩ := kids2 (ts := ks) (by subst hs; simp [isBuiltin] at hb; omega)
   have e : solveG σ s [x, y] = (codeB (!(uniG σ x y).1), σ, []) := by subst hs; rfl
   rw [e]
   have hc := cN_l5SolveNe h0 hN hg ho n s x y hs (hv x (by simp)) (hv y (by simp)) none0'
   refine (zq7.frame0 (args' := [(Tm.mk 3 n s [x, y]).av, .mslice bb 0 N 4]) (st := st) rfl hc fun h vs S V => ?_).mono ?_
   · simp only [VRelL] at V ⊢
     obtain ⟨v, vs', rfl, V1, w, ws', rfl, V2, rfl⟩ := V
     refine ⟨v, [w], rfl, V1.mono ((Drops.none0' st).step h), w, [], rfl, ?_, rfl⟩
     have h2 := V2.fz S hS (arrN_junk N σ) ⟨4, arrN_widths N σ⟩
     have h3 : (AV.mslice bb 0 N 4).fz bb (arrN N σ) = .slice (arrN N σ) := by simp [AV.fz, arrN_len]
     rw [h3] at h2
     exact h2.mono ((Drops.none0' (st.erase bb)).step h)
   · rintro _ _ ⟨rfl, rfl⟩
     exact SolveN.same hS _ rfl
 · exact cN_l5Solve hN hg ho n s ks hb hs hv bb st hS
end Go.AW
