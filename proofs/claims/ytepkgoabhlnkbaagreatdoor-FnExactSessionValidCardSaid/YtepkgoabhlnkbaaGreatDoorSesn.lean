import Derived.Test.YtepkgoabhlnkbaaGreatDoorSesm
import Derived.Test.YtepkgoabhlnkbaaGreatDoorSesk
import Derived.Test.YtepkgoabhlnkbaaGreatDoorSesj
import Derived.Test.YtepkgoabhlnkbaaGreatDoorSesl
import Derived.Test.YtepkgoabhlnkbaaGreatDoorSesf
import Derived.Lib.SliceRun
set_option linter.unusedSimpArgs false
set_option linter.unusedVariables false
set_option maxRecDepth 100000
namespace Go.AW
open Go.Proofs.Tryz
abbrev tf_Q3_106 := zi tI_3 (zi zI_3 (zi underlying3 (zi tI_29 (zi zI_29 (zi eI_29 (zi eB_29 (zi eZ_29 (zi underlying29 (zi tI_56 (zi zI_56 (zi fI_56_0 (zi fI_56_1 (zi fI_56_2 (zi fI_56_3 bI_56))))))))))))))
theorem cI_l3Walk {N : Nat} {σ : Sub} (hok : AllS (OkV N) σ) {f : Nat} {t u : Tm} (hw : WkN σ f t u) (ht : OkV N t) (st : zy7) : zq7 prog 106 [t.av, .slice (arrN N σ)] st (fun r st' => r = u.av ∧ st' = st) := by
 refine zq7.done ?_
 refine wF [1000000, 2] 2 func106 ntmps106 rfl rfl ?_
 intro _
 have hlen : (arrN N σ).length = N := by simp [arrN]
 simp -implicitDefEqProofs only [zy4, hlen, evF, ↓evZ, implies_true, seval, tf_Q3_106]
 intro b2 h2 b4 h4
 have hne : b4 ≠ b2 := by rintro rfl; rw [zy7.upd_same] at h4; cases h4
 have hn4 : st b4 = none := by rw [zy7.upd_ne st _ hne] at h4; exact h4
 refine zw5 (σ := Nat × Tm) [1000000, 2] [1, 2, 4] (fun p => WkN σ p.1 p.2 u ∧ OkV N p.2) (fun p => []) (fun p => (st.upd b2 (.cells p.2.av.cells)).upd b4 (.cells [.int .i64 0, .int .i64 0, .str ⟨#[]⟩, .fslice []])) (fun p => p.1) (by decide +kernel) ⟨(f, t), ⟨hw, ht⟩, zx7.mk (by simp -implicitDefEqProofs only [zy4, hlen, evF, ↓evZ, implies_true, seval, tf_Q3_106])⟩ ?_
 rintro ⟨g, t⟩ ⟨hw, ht⟩
 obtain ⟨k, n, s, ts⟩ := t
 simp only at hw ht
 simp only [Tm.av_mk]
 have hend : k ≠ 1 ∨ σ n = none → u = .mk k n s ts := fun h => by
  cases hw with
  | stop _ => rfl
  | go h1 h2 _ =>
   simp only [Tm.k] at h1
   rcases h with h | h
   · exact absurd h1 h
   · rw [show σ n = some _ from h2] at h; cases h
 simp -implicitDefEqProofs only [zy4, hne, hne.symm, hlen, evF, ↓evZ, implies_true, seval, tf_Q3_106]
 refine zx4 (fun h => ?_) (fun h => ?_)
 case refine_2 =>
  simp -implicitDefEqProofs only [h, zy4, hne, hne.symm, hlen, evF, ↓evZ, implies_true, seval, tf_Q3_106]
  simp only [Bool.not_true, decide_eq_false_iff_not] at h
  rw [hend (.inl h), ← Tm.av_mk]
  exact ⟨Tm.soft _, ((Drops.refl _).upd h2).upd hn4⟩
 simp only [decide_eq_true_eq] at h
 subst h
 obtain ⟨hn0, hn1, _⟩ := ht.var
 obtain ⟨i, rfl⟩ : ∃ i : Nat, n = i := ⟨n.toNat, by omega⟩
 have hi : i < N := by omega
 have hi' : decide ((i : Int) < (N : Int)) = true := by simp; omega
 simp -implicitDefEqProofs only [decide_true, hi', beq_self_eq_true, zy4, hne, hne.symm, hlen, evF, ↓evZ, implies_true, seval, tf_Q3_106]
 have hat : aIndexAddr prog 29 (.slice (arrN N σ)) (.int .i64 (i : Int)) = some (.pptr (cellOf (σ (i : Int)))) := ev_at (av := fun i : Nat => cellOf (σ (i : Int))) eI_29 (List.getElem?_range hi) (cellOf_width _)
 cases hw with
 | stop hs =>
  rw [show σ (i : Int) = none from hs rfl] at hat
  simp only [cellOf] at hat
  simp -implicitDefEqProofs only [hat, decide_true, zy4, hne, hne.symm, hlen, evF, ↓evZ, implies_true, seval, tf_Q3_106]
  exact ⟨by rw [← Tm.av_mk, Tm.soft], ((Drops.refl _).upd h2).upd hn4⟩
 | go h1 h2' h3 =>
  simp only [Tm.n] at h2'
  have ho := hok _ _ h2'
  rename_i g' u'
  obtain ⟨k', n', s', ts'⟩ := u'
  have hk' : ¬ k' = 0 := by have := ho.kind.1; omega
  rw [h2'] at hat
  simp only [cellOf, Tm.av_mk] at hat
  simp -implicitDefEqProofs only [hat, hk', decide_false, zy4, hne, hne.symm, hlen, evF, ↓evZ, implies_true, seval, tf_Q3_106]
  rw [zy7.upd_mid hne, zy7.upd_comm _ _ _ hne]
  refine ⟨(g', .mk k' n' s' ts'), Nat.lt_succ_self _, ⟨h3, ho⟩, ?_⟩
  simp only [Tm.av_mk]
  exact zx7.mk (by simp -implicitDefEqProofs only [zy4, hne, hne.symm, hlen, evF, ↓evZ, implies_true, seval, tf_Q3_106])
abbrev tf_Q3_80 := zi tI_3 (zi zI_3 (zi underlying3 (zi tI_9 (zi zI_9 (zi underlying9 (zi tI_29 (zi zI_29 (zi eI_29 (zi eB_29 (zi eZ_29 (zi underlying29 (zi tI_56 (zi zI_56 (zi fI_56_0 (zi fI_56_1 (zi fI_56_2 (zi fI_56_3 bI_56)))))))))))))))))
theorem cI_l3Full {N : Nat} {σ : Sub} {R : Int → Tm} {rk : Int → Nat} {B : Nat} (G : Good σ R rk B) (hok : AllS (OkX N) σ) :
 ∀ (room : Nat) (t : Tm) (st : zy7), room ≤ 120 → OkX N t → zq7 prog 80 [t.av, .slice (arrN N σ), .int .i64 (room : Int)] st (Full (t.mapv R) room st)
 | room, t, st, hr, ht => by
  have IH := fun (room' : Nat) (hlt : room' < room) (x : Tm) st => cI_l3Full G hok room' x st
  obtain ⟨f, hw⟩ := G.wk t
  generalize wk σ t = u at *
  have hokA : AllS (OkV N) σ := fun n u hu => (hok n u hu).1
  have hsu := hw.all (p := OkX N) hok ht
  have hcw := fun st => cI_l3Walk hokA hw ht.1 st
  obtain ⟨k, n, s, ts⟩ := u
  have hv := good_walked G hw (hsu.1.2.1)
  rw [hv]
  obtain ⟨hlen, hsms⟩ := Tm.small_mk (hsu.1.small)
  have hle4 := hsu.1.kind.2
  have hkn := hsu.1.all.2
  have hkk : ∀ x ∈ ts, OkX N x := fun x hx => by
   refine ⟨hkn x hx, ?_⟩
   have := hsu.2
   rw [Tm.nodes_mk] at this
   have := sumL_mem (f := Tm.nodes) hx
   omega
  refine zq7.dropS (zq7.fin ?_)
  refine wF [1000000, 3, 8] 3 func80 ntmps80 rfl rfl ?_
  intro _
  simp -implicitDefEqProofs only [zy4, evF, ↓evZ, implies_true, seval, tf_Q3_80]
  intro b3 h3 b6 h6
  have h63 : b6 ≠ b3 := by rintro rfl; rw [zy7.upd_same] at h6; cases h6
  have hn6 : st b6 = none := by rw [zy7.upd_ne st _ h63] at h6; exact h6
  have hwr : ∀ z : Int, -1 ≤ z → z ≤ 200 → IntKind.i64.wrap z = z := fun z h1 h2 => wrap64 (by omega) (by omega)
  have hw1 := hwr ((room : Int) - 1) (by omega) (by omega)
  refine zq4 (fun h => ?_) (fun h => ?_)
  · simp only [decide_eq_true_eq] at h
    obtain rfl : room = 0 := by omega
    simp -implicitDefEqProofs only [zy4, h63, h63.symm, hw1, evF, ↓evZ, implies_true, seval, tf_Q3_80]
    refine ⟨0, [], _, rfl, by simp, by simp, ⟨4, by simp⟩, st, (fun x => by by_cases e3 : x = b3 <;> by_cases e6 : x = b6 <;> simp_all [zy7.upd]), rfl, Tm.zero, -1, ?_, Int.le_refl _, ?_⟩
    · simp only [Tm.zero, Tm.av_mk, fin_agg, fin_tup, fin_int, fin_bool, fin_str, fin_slice, fin_fslice, fin_pptr, fin_ptr, fin_func, fin_map, fin_undef, fin_accV, tm_fin, List.map_cons, List.map_nil]
    · rw [if_neg (by rw [Tm.nodes_mk]; omega)]; decide
  simp only [decide_eq_false_iff_not] at h
  simp -implicitDefEqProofs only [zy4, h63, h63.symm, hw1, evF, ↓evZ, implies_true, seval, tf_Q3_80]
  refine (hcw _).to ?_
  simp only [Tm.av_mk]
  simp -implicitDefEqProofs only [zy4, h63, h63.symm, hw1, evF, ↓evZ, implies_true, seval, tf_Q3_80]
  intro b8 h8
  have h83 : b8 ≠ b3 := by rintro rfl; simp [zy7.upd, h63.symm] at h8
  have h86 : b8 ≠ b6 := by rintro rfl; simp [zy7.upd, h63] at h8
  have hn8 : st b8 = none := by rw [zy7.upd_ne _ _ h83, zy7.upd_ne _ _ h86, zy7.upd_ne _ _ h83] at h8; exact h8
  rw [zy7.upd_mid h63]
  have hW6 : ((st.upd b6 (.cells [.int .i64 0, .int .i64 0, .str ⟨#[]⟩, .fslice []])).upd b3 (.cells [.int .i64 k, .int .i64 n, .str s, .slice (ts.map Tm.av)])) b6 = some (.cells [.int .i64 0, .int .i64 0, .str ⟨#[]⟩, .fslice []]) := by rw [zy7.upd_ne _ _ h63, zy7.upd_same]
  have hW3 : ((st.upd b6 (.cells [.int .i64 0, .int .i64 0, .str ⟨#[]⟩, .fslice []])).upd b3 (.cells [.int .i64 k, .int .i64 n, .str s, .slice (ts.map Tm.av)])) b3 = some (.cells [.int .i64 k, .int .i64 n, .str s, .slice (ts.map Tm.av)]) := zy7.upd_same _ _ _
  have hWd : ∀ Y Z, Drops ((((st.upd b6 (.cells [.int .i64 0, .int .i64 0, .str ⟨#[]⟩, .fslice []])).upd b3 (.cells [.int .i64 k, .int .i64 n, .str s, .slice (ts.map Tm.av)])).upd b8 Z).upd b6 Y) st := fun Y Z x => by
   by_cases e3 : x = b3 <;> by_cases e6 : x = b6 <;> by_cases e8 : x = b8 <;> simp_all [zy7.upd]
  generalize ((st.upd b6 (.cells [.int .i64 0, .int .i64 0, .str ⟨#[]⟩, .fslice []])).upd b3 (.cells [.int .i64 k, .int .i64 n, .str s, .slice (ts.map Tm.av)])) = W at *
  have hsum : (Tm.mk k n s (ts.map (Tm.mapv R))).nodes = 1 + sumL Tm.nodes (ts.map (Tm.mapv R)) := Tm.nodes_mk _ _ _ _
  refine zy5 (σ := Nat × List Tm × Int) [1000000, 3, 8] [1, 3, 6, 7, 8] ts
   (fun i p => (p.2.1.map Tm.av ≠ [] → (W.upd b8 (.cells ([.int .i64 k, .int .i64 n, .str s] ++ [accV 4 p.1 (p.2.1.map Tm.av)]))) p.1 = none) ∧ p.2.1.length = i ∧ -1 ≤ p.2.2 ∧
    (0 ≤ p.2.2 → p.2.1 = (ts.take i).map (Tm.mapv R) ∧ p.2.2 = (room : Int) - 1 - sumL Tm.nodes p.2.1) ∧ (p.2.2 < 0 → room < 1 + sumL Tm.nodes (ts.map (Tm.mapv R))))
   (fun i p => [(9, .int .i64 p.2.2), (10, .int .i64 i)])
   (fun i p => kidS W b8 p.1 [.int .i64 k, .int .i64 n, .str s] (p.2.1.map Tm.av)) (by decide +kernel)
   ⟨(0, [], (room : Int) - 1), ⟨fun h => absurd rfl h, rfl, by simp only; omega, fun _ => ⟨by simp, by simp [sumL]⟩, fun h => by simp only at h; omega⟩, zx7.mk (by simp -implicitDefEqProofs only [zy4, h63, h63.symm, h83, h83.symm, h86, h86.symm, hw1, List.length_map, evF, ↓evZ, implies_true, seval, tf_Q3_80])⟩ (fun i x p hx hlt hlt' hdr' hinv => ?_) (fun p hge hinv => ?_)
  · obtain ⟨b, acc, left⟩ := p
    obtain ⟨i1, i2, i3, i4, i5⟩ := hinv
    simp only at i1 i2 i3 i4 i5
    have h3o := kidS_ne i1 (x := b3) (by rw [hW3]; simp) h83.symm
    rw [hW3] at h3o
    simp -implicitDefEqProofs only [hlt', decide_true, beq_self_eq_true, zy4, h63, h63.symm, h83, h83.symm, h86, h86.symm, hw1, List.length_map, h3o, evF, ↓evZ, implies_true, seval, tf_Q3_80]
    refine zq4 (fun h9 => ?_) (fun h9 => ?_)
    case refine_2 =>
     simp only [decide_eq_false_iff_not] at h9
     have hbo := kidS_c i1
     have h6o := kidS_ne i1 (x := b6) (by rw [hW6]; simp) h86.symm
     rw [hW6] at h6o
     simp -implicitDefEqProofs only [zy4, hbo, h6o, accV_store, evF, ↓evZ, implies_true, seval, tf_Q3_80]
     obtain ⟨g5, g6⟩ := kidS_upd (o := .cells [.int .i64 k, .int .i64 n, .str s, accV 4 b (acc.map Tm.av)]) i1 (show W b6 ≠ none by rw [hW6]; simp) h86.symm
     refine ⟨b, _, _, g5, g6, tm_junk _, ⟨4, tm_widths _⟩, st, hWd _ _, rfl, .mk k n s acc, left, ?_, i3, ?_⟩
     · simp only [fin_tup, fin_agg, List.map_cons, List.map_nil, fin_int, fin_str, accV_fin, Tm.av_mk]
     · rw [hsum]
       skip
       rw [if_neg (by have := i5 (by omega); omega)]
       omega
    simp only [decide_eq_true_eq] at h9
    obtain ⟨e1, e2⟩ := i4 h9
    have hmem := List.mem_of_getElem? hx
    have hsl := sumL_take_le' Tm.nodes (ts.map (Tm.mapv R)) (i + 1)
    rw [← List.map_take, List.take_add_one, hx] at hsl
    simp only [Option.toList_some, List.map_append, List.map_cons, List.map_nil, sumL_append, sumL, ← e1] at hsl
    obtain ⟨room', rfl⟩ : ∃ r : Nat, left = r := ⟨left.toNat, by omega⟩
    have hlen' : (acc.map Tm.av).length = i := by rw [List.length_map, i2]
    have hw := wrap64 (n := (i : Int) + 1) (by omega) (by omega)
    have hbo := kidS_c i1
    simp -implicitDefEqProofs only [zy4, hdr', List.length_map, h3o, ev_at (av := Tm.av) eI_29 hx (Tm.av_width x), Tm.av_agg, Tm.av_width, Tm.av_store, Tm.av_junk, hbo, accV_agg, accV_width, evF, ↓evZ, implies_true, seval, tf_Q3_80]
    refine (IH room' (by omega) x _ (by omega) (hkk x hmem)).mono ?_
    rintro _ _ ⟨rfl, y, left', rfl, hl1, hl2⟩
    simp -implicitDefEqProofs only [zy4, hdr', List.length_map, h3o, ev_at (av := Tm.av) eI_29 hx (Tm.av_width x), Tm.av_agg, Tm.av_width, Tm.av_store, Tm.av_junk, hbo, accV_agg, accV_width, evF, ↓evZ, implies_true, seval, tf_Q3_80]
    refine acc_append eI_29 eB_29 eZ_29 rfl rfl (by intro e he; simp only [List.mem_cons, List.not_mem_nil, or_false] at he; subst he; exact ⟨Tm.av_width _, Tm.av_store _⟩) (tm_widths _) i1 (by simp only [hlen', List.length_cons, List.length_nil]; omega) (by simp only [hlen', List.length_cons, List.length_nil]; omega) (fun b' hb' => ?_)
    rw [show acc.map Tm.av ++ [y.av] = (acc ++ [y]).map Tm.av by simp] at hb' ⊢
    obtain ⟨g1, g2, g3⟩ := kidS_set hb'
    simp only [List.cons_append, List.nil_append] at g1 g3
    simp -implicitDefEqProofs only [g3, accV_cells, accV_store, Nat.le_refl, g1, hw, zy4, hdr', List.length_map, h3o, ev_at (av := Tm.av) eI_29 hx (Tm.av_width x), Tm.av_agg, Tm.av_width, Tm.av_store, Tm.av_junk, hbo, accV_agg, accV_width, evF, ↓evZ, implies_true, seval, tf_Q3_80]
    refine ⟨(b', acc ++ [y], left'), ⟨g2, by simp [i2], hl1, fun h => ?_, fun h => ?_⟩, zx7.mk (by simp -implicitDefEqProofs only [zy4, hdr', List.length_map, h3o, ev_at (av := Tm.av) eI_29 hx (Tm.av_width x), Tm.av_agg, Tm.av_width, Tm.av_store, Tm.av_junk, hbo, accV_agg, accV_width, evF, ↓evZ, implies_true, seval, tf_Q3_80])⟩
    · simp only at h
      split at hl2
      · obtain ⟨rfl, hl3⟩ := hl2
        refine ⟨by rw [List.take_add_one, hx]; simp [e1], ?_⟩
        simp only [sumL_append, sumL]
        omega
      · omega
    · simp only at h
      split at hl2
      · omega
      · omega
  · obtain ⟨b, acc, left⟩ := p
    obtain ⟨i1, i2, i3, i4, i5⟩ := hinv
    simp only at i1 i2 i3 i4 i5
    rw [List.take_length] at i4
    have h3o := kidS_ne i1 (x := b3) (by rw [hW3]; simp) h83.symm
    rw [hW3] at h3o
    simp -implicitDefEqProofs only [hge, zy4, h63, h63.symm, h83, h83.symm, h86, h86.symm, hw1, List.length_map, h3o, evF, ↓evZ, implies_true, seval, tf_Q3_80]
    have hbo := kidS_c i1
    have h6o := kidS_ne i1 (x := b6) (by rw [hW6]; simp) h86.symm
    rw [hW6] at h6o
    simp -implicitDefEqProofs only [zy4, hbo, h6o, accV_store, evF, ↓evZ, implies_true, seval, tf_Q3_80]
    obtain ⟨g5, g6⟩ := kidS_upd (o := .cells [.int .i64 k, .int .i64 n, .str s, accV 4 b (acc.map Tm.av)]) i1 (show W b6 ≠ none by rw [hW6]; simp) h86.symm
    refine ⟨b, _, _, g5, g6, tm_junk _, ⟨4, tm_widths _⟩, st, hWd _ _, rfl, .mk k n s acc, left, ?_, i3, ?_⟩
    · simp only [fin_tup, fin_agg, List.map_cons, List.map_nil, fin_int, fin_str, accV_fin, Tm.av_mk]
    · rw [hsum]
      skip
      rcases Int.lt_or_le left 0 with h9 | h9
      · rw [if_neg (by have := i5 h9; omega)]; exact h9
      · obtain ⟨e1, e2⟩ := i4 h9
        rw [← e1] at i5 ⊢
        rw [if_pos (by omega)]
        exact ⟨rfl, by omega⟩
termination_by room => room
decreasing_by exact hlt
abbrev ansAv (l : List Tm) : AV := .agg [.slice (l.map Tm.av)]
theorem tmsVars_app : ∀ (a b : List Tm) (l : List Int), tmsVars (a ++ b) l = tmsVars b (tmsVars a l)
 | [], _, _ => rfl
 | t :: a, b, l => by simp only [List.cons_append, tmsVars, tmsVars_app a b]
abbrev tf_Ag2_39 := zi tI_3 (zi zI_3 (zi underlying3 (zi tI_29 (zi zI_29 (zi eI_29 (zi eB_29 (zi eZ_29 (zi underlying29 (zi tI_56 (zi zI_56 (zi fI_56_0 (zi fI_56_1 (zi fI_56_2 (zi fI_56_3 (zi bI_56 (zi tI_66 (zi zI_66 (zi eI_66 (zi eB_66 (zi eZ_66 underlying66))))))))))))))))))))
theorem c_l6Vars (q : List Tm) (st : zy7) (hwf : ∀ t ∈ q, t.wf = true) (hsz : sumL Tm.nodes q ≤ 1099511627776) : zq7 prog 39 [.slice (q.map Tm.av)] st (fun r st' => r = .slice ((tmsVars q []).map iv) ∧ st' = st) := by
 refine zq7.done ?_
 refine wF [1000000] 1 func39 ntmps39 rfl rfl ?_
 simp only [fitsL, AV.fits, and_true, List.length_map]
 intro ⟨hl, _⟩
 simp -implicitDefEqProofs only [List.length_map, evF, ↓evZ, implies_true, seval, tf_Ag2_39]
 refine zq6 (σ := Unit) [1000000] [0, 2] q 1 3 (fun i _ => (tmsVars (q.take i) []).map iv) (fun _ _ => True) (fun i _ => [(4, .int .i64 i)]) (fun _ _ => st) (fun i _ _ e he => by simp only [List.mem_map] at he; obtain ⟨t, _, rfl⟩ := he; exact ⟨rfl, rfl⟩) (by decide +kernel) ⟨(), 0, trivial, fun h => absurd rfl h, zx7.mk (by simp -implicitDefEqProofs only [accV_nil, accS_nil, List.take_zero, tmsVars, List.map_nil, List.length_map, evF, ↓evZ, implies_true, seval, tf_Ag2_39])⟩ (fun i x s b hx hlt hlt' hdr hinv hb => ?_) (fun s b hge hinv => ?_)
 case refine_2 =>
  simp -implicitDefEqProofs only [hge, fin_agg, fin_tup, fin_int, fin_bool, fin_str, fin_slice, fin_fslice, fin_pptr, fin_ptr, fin_func, fin_map, fin_undef, fin_accV, tm_fin, List.take_length, List.length_map, evF, ↓evZ, implies_true, seval, tf_Ag2_39]
  exact ⟨rfl, Drops.refl _⟩
 have hw := wrap64 (n := (i : Int) + 1) (by omega) (by omega)
 have hat := ev_at (av := Tm.av) eI_29 hx (Tm.av_width x)
 have hst := sumL_take Tm.nodes hx
 have hvl := tmsVars_len (q.take i) []
 simp only [List.length_nil, Nat.zero_add] at hvl
 have htk : x.vars (tmsVars (q.take i) []) = tmsVars (q.take (i + 1)) [] := by
  rw [List.take_add_one, hx, tmsVars_app]
  rfl
 simp -implicitDefEqProofs only [hlt', List.length_map, hat, evF, ↓evZ, implies_true, seval, tf_Ag2_39]
 refine (c_l1Vars x (tmsVars (q.take i) []) b st (hwf x (List.mem_of_getElem? hx)) hb (by omega)).mono ?_
 rintro _ _ ⟨b', rfl, rfl, hb'⟩
 rw [htk] at hb' ⊢
 simp -implicitDefEqProofs only [List.length_map, hat, evF, ↓evZ, implies_true, seval, tf_Ag2_39]
 exact ⟨(), b', hb', zx7.mk (by simp -implicitDefEqProofs only [hw, List.length_map, hat, evF, ↓evZ, implies_true, seval, tf_Ag2_39])⟩
end Go.AW
namespace Go.AW
theorem drops_acc2 {s0 st : zy7} {b : Nat} {l : List AV} (D : Drops s0 st) : Drops (accS s0 b l) (accS st b l) := by
 cases l with
 | nil => exact D
 | cons y l =>
  intro x
  simp only [accS]
  by_cases e : x = b
  · subst e; simp [zy7.upd_same]
  · rw [zy7.upd_ne _ _ e, zy7.upd_ne _ _ e]; exact D x
end Go.AW
namespace Go.AW
open Go.Proofs.Tryz
mutual
def Tm.sh (m : Int) : Tm → Tm
 | .mk k n s ts => .mk k (if k = 1 then IntKind.i64.wrap (n + m) else n) s (tmsSh m ts)
def tmsSh (m : Int) : List Tm → List Tm
 | [] => []
 | t :: ts => t.sh m :: tmsSh m ts
end
theorem tmsSh_map (m : Int) : ∀ ts : List Tm, tmsSh m ts = ts.map (Tm.sh m)
 | [] => rfl
 | t :: ts => by simp only [tmsSh, List.map_cons, tmsSh_map m ts]
theorem Tm.sh_mk (m k n : Int) (s : ByteArray) (ts : List Tm) : (Tm.mk k n s ts).sh m = .mk k (if k = 1 then IntKind.i64.wrap (n + m) else n) s (ts.map (Tm.sh m)) := by simp only [Tm.sh, tmsSh_map]
abbrev tf_D3_79 := zi tI_3 (zi zI_3 (zi underlying3 (zi tI_9 (zi zI_9 (zi underlying9 (zi tI_29 (zi zI_29 (zi eI_29 (zi eB_29 (zi eZ_29 (zi underlying29 (zi tI_56 (zi zI_56 (zi fI_56_0 (zi fI_56_1 (zi fI_56_2 (zi fI_56_3 bI_56)))))))))))))))))
theorem c_l3Shift (m : Int) : ∀ (t : Tm) (st : zy7), t.small = true → zq7 prog 79 [t.av, .int .i64 m] st (fun r st' => r = (t.sh m).av ∧ st' = st)
 | .mk k n s ts, st, hsm => by
  obtain ⟨hlen, hsms⟩ := Tm.small_mk hsm
  have IH := fun (x : Tm) (hx : x ∈ ts) st => c_l3Shift m x st (hsms x hx)
  refine zq7.drop2 (zq7.fin ?_)
  simp only [Tm.av_mk]
  refine wF [1000000, 5] 2 func79 ntmps79 rfl rfl ?_
  simp only [fitsL, AV.fits, and_true, List.length_map]
  intro ⟨_, _, _, hl, _⟩
  simp -implicitDefEqProofs only [zy4, evF, ↓evZ, implies_true, seval, tf_D3_79]
  intro b2 hb2 c hc
  have hne : c ≠ b2 := by rintro rfl; rw [zy7.upd_same] at hc; cases hc
  have hn2 : st c = none := by rw [zy7.upd_ne st _ hne] at hc; exact hc
  have hb2c : b2 ≠ c := Ne.symm hne
  have hS : (st.upd b2 (.cells [AV.int .i64 0, AV.int .i64 0, AV.str ⟨#[]⟩, AV.fslice []])) b2 ≠ none := by rw [zy7.upd_same]; simp
  refine zq4 (fun h => ?_) (fun h => ?_)
  · simp only [decide_eq_true_eq] at h
    simp -implicitDefEqProofs only [zy4, hne, hb2c, zy7.upd_upd, evF, ↓evZ, implies_true, seval, tf_D3_79]
    refine zy5 (σ := Nat) [1000000] [1, 2, 4, 5] ts (fun i b => (((ts.take i).map (Tm.sh m)).map Tm.av ≠ [] → (zy7.upd (st.upd b2 (.cells [AV.int .i64 0, AV.int .i64 0, AV.str ⟨#[]⟩, AV.fslice []])) c (.cells ([AV.int .i64 k, AV.int .i64 (IntKind.i64.wrap (n + m)), AV.str s] ++ [accV 4 b (((ts.take i).map (Tm.sh m)).map Tm.av)]))) b = none)) (fun i b => [(6, .int .i64 i)]) (fun i b => kidS (st.upd b2 (.cells [AV.int .i64 0, AV.int .i64 0, AV.str ⟨#[]⟩, AV.fslice []])) c b [AV.int .i64 k, AV.int .i64 (IntKind.i64.wrap (n + m)), AV.str s] (((ts.take i).map (Tm.sh m)).map Tm.av)) (by decide +kernel)
     ⟨0, fun h => absurd rfl h, zx7.mk (by simp -implicitDefEqProofs only [List.length_map, zy4, hne, hb2c, zy7.upd_upd, evF, ↓evZ, implies_true, seval, tf_D3_79])⟩ (fun i x b hx hlt hlt' hdr hinv => ?_) (fun b hge hinv => ?_)
    case refine_1 =>
     have hw := wrap64 (n := (i : Int) + 1) (by omega) (by omega)
     have hlen' : (((ts.take i).map (Tm.sh m)).map Tm.av).length = i := by simp only [List.length_map, List.length_take]; omega
     have htk : (ts.take (i + 1)).map (Tm.sh m) = (ts.take i).map (Tm.sh m) ++ [(Tm.sh m) x] := by rw [List.take_add_one, hx]; simp
     have hbo := kidS_c hinv
     simp -implicitDefEqProofs only [List.length_map, hlt', ev_at (av := Tm.av) eI_29 hx (Tm.av_width x), Nat.zero_add, zy4, hne, hb2c, zy7.upd_upd, evF, ↓evZ, implies_true, seval, tf_D3_79]
     refine wP [(0, 1), (2, 1), (4, 1), (7, 1), (1, 2), (3, 2), (5, 1), (6, 2), (8, 2), (9, 1), (10, 0), (11, 1), (12, 0)] [0, 2, 4, 7, 1, 3, 5, 6, 8, 9, 11] mixed ?_
     simp -implicitDefEqProofs only [ev_at (av := Tm.av) eI_29 hx (Tm.av_width x), Tm.av_agg, Tm.av_width, hbo, accV_agg, accV_width, Nat.zero_add, zy4, hne, hb2c, zy7.upd_upd, evF, ↓evZ, implies_true, seval, tf_D3_79]
     refine zw4 (IH x (List.mem_of_getElem? hx) _) ?_
     simp -implicitDefEqProofs only [Tm.av_agg, Tm.av_width, Tm.av_junk, hbo, accV_agg, accV_width, Nat.zero_add, zy4, hne, hb2c, zy7.upd_upd, evF, ↓evZ, implies_true, seval, tf_D3_79]
     refine acc_append eI_29 eB_29 eZ_29 rfl rfl (by intro e he; simp only [List.mem_cons, List.not_mem_nil, or_false] at he; subst he; exact ⟨Tm.av_width _, Tm.av_store _⟩) (tm_widths _) hinv (by simp only [hlen', List.length_cons, List.length_nil]; omega) (by simp only [hlen', List.length_cons, List.length_nil]; omega) (fun b' hb' => ?_)
     rw [show (((ts.take i).map (Tm.sh m)).map Tm.av) ++ [((Tm.sh m) x).av] = ((ts.take (i + 1)).map (Tm.sh m)).map Tm.av by rw [htk]; simp] at hb' ⊢
     obtain ⟨g1, g2, g3⟩ := kidS_set hb'
     simp only [List.cons_append, List.nil_append] at g1 g3
     simp -implicitDefEqProofs only [g3, accV_cells, accV_store, zy4, Nat.le_refl, g1, hw, zy4, hne, hb2c, zy7.upd_upd, evF, ↓evZ, implies_true, seval, tf_D3_79]
     exact ⟨b', g2, zx7.mk (by simp -implicitDefEqProofs only [zy4, hne, hb2c, zy7.upd_upd, evF, ↓evZ, implies_true, seval, tf_D3_79])⟩
    have hbo := kidS_c hinv
    rw [List.take_length] at hinv hbo ⊢
    simp -implicitDefEqProofs only [List.length_map, hge, zy4, hne, hb2c, zy7.upd_upd, evF, ↓evZ, implies_true, seval, tf_D3_79]
    simp -implicitDefEqProofs only [hbo, zy4, hne, hb2c, zy7.upd_upd, evF, ↓evZ, implies_true, seval, tf_D3_79]
    have h1 := kidS_ne hinv hS hb2c
    rw [zy7.upd_same] at h1
    simp -implicitDefEqProofs only [h1, accV_store, accV_cells, zy4, Nat.le_refl, zy4, hne, hb2c, zy7.upd_upd, evF, ↓evZ, implies_true, seval, tf_D3_79]
    obtain ⟨h2, h3⟩ := kidS_upd (o := .cells [AV.int .i64 k, AV.int .i64 (IntKind.i64.wrap (n + m)), AV.str s, accV 4 b ((ts.map (Tm.sh m)).map Tm.av)]) hinv hS hb2c
    refine ⟨b, _, _, h2, h3, tm_junk _, ⟨4, tm_widths _⟩, ?_, (((Drops.refl _).upd hb2).upd hn2).upd hb2⟩
    simp only [fin_agg, List.map_cons, List.map_nil, fin_int, fin_str, accV_fin, ← Tm.av_mk]
    rw [Tm.sh_mk, if_pos h]
  · simp only [decide_eq_false_iff_not] at h
    simp -implicitDefEqProofs only [zy4, hne, hb2c, zy7.upd_upd, evF, ↓evZ, implies_true, seval, tf_D3_79]
    refine zy5 (σ := Nat) [1000000] [1, 2, 4, 5] ts (fun i b => (((ts.take i).map (Tm.sh m)).map Tm.av ≠ [] → (zy7.upd (st.upd b2 (.cells [AV.int .i64 0, AV.int .i64 0, AV.str ⟨#[]⟩, AV.fslice []])) c (.cells ([AV.int .i64 k, AV.int .i64 (n), AV.str s] ++ [accV 4 b (((ts.take i).map (Tm.sh m)).map Tm.av)]))) b = none)) (fun i b => [(6, .int .i64 i)]) (fun i b => kidS (st.upd b2 (.cells [AV.int .i64 0, AV.int .i64 0, AV.str ⟨#[]⟩, AV.fslice []])) c b [AV.int .i64 k, AV.int .i64 (n), AV.str s] (((ts.take i).map (Tm.sh m)).map Tm.av)) (by decide +kernel)
     ⟨0, fun h => absurd rfl h, zx7.mk (by simp -implicitDefEqProofs only [List.length_map, zy4, hne, hb2c, zy7.upd_upd, evF, ↓evZ, implies_true, seval, tf_D3_79])⟩ (fun i x b hx hlt hlt' hdr hinv => ?_) (fun b hge hinv => ?_)
    case refine_1 =>
     have hw := wrap64 (n := (i : Int) + 1) (by omega) (by omega)
     have hlen' : (((ts.take i).map (Tm.sh m)).map Tm.av).length = i := by simp only [List.length_map, List.length_take]; omega
     have htk : (ts.take (i + 1)).map (Tm.sh m) = (ts.take i).map (Tm.sh m) ++ [(Tm.sh m) x] := by rw [List.take_add_one, hx]; simp
     have hbo := kidS_c hinv
     simp -implicitDefEqProofs only [List.length_map, hlt', ev_at (av := Tm.av) eI_29 hx (Tm.av_width x), Nat.zero_add, zy4, hne, hb2c, zy7.upd_upd, evF, ↓evZ, implies_true, seval, tf_D3_79]
     refine wP [(0, 1), (2, 1), (4, 1), (7, 1), (1, 2), (3, 2), (5, 1), (6, 2), (8, 2), (9, 1), (10, 0), (11, 1), (12, 0)] [0, 2, 4, 7, 1, 3, 5, 6, 8, 9, 11] mixed ?_
     simp -implicitDefEqProofs only [ev_at (av := Tm.av) eI_29 hx (Tm.av_width x), Tm.av_agg, Tm.av_width, hbo, accV_agg, accV_width, Nat.zero_add, zy4, hne, hb2c, zy7.upd_upd, evF, ↓evZ, implies_true, seval, tf_D3_79]
     refine zw4 (IH x (List.mem_of_getElem? hx) _) ?_
     simp -implicitDefEqProofs only [Tm.av_agg, Tm.av_width, Tm.av_junk, hbo, accV_agg, accV_width, Nat.zero_add, zy4, hne, hb2c, zy7.upd_upd, evF, ↓evZ, implies_true, seval, tf_D3_79]
     refine acc_append eI_29 eB_29 eZ_29 rfl rfl (by intro e he; simp only [List.mem_cons, List.not_mem_nil, or_false] at he; subst he; exact ⟨Tm.av_width _, Tm.av_store _⟩) (tm_widths _) hinv (by simp only [hlen', List.length_cons, List.length_nil]; omega) (by simp only [hlen', List.length_cons, List.length_nil]; omega) (fun b' hb' => ?_)
     rw [show (((ts.take i).map (Tm.sh m)).map Tm.av) ++ [((Tm.sh m) x).av] = ((ts.take (i + 1)).map (Tm.sh m)).map Tm.av by rw [htk]; simp] at hb' ⊢
     obtain ⟨g1, g2, g3⟩ := kidS_set hb'
     simp only [List.cons_append, List.nil_append] at g1 g3
     simp -implicitDefEqProofs only [g3, accV_cells, accV_store, zy4, Nat.le_refl, g1, hw, zy4, hne, hb2c, zy7.upd_upd, evF, ↓evZ, implies_true, seval, tf_D3_79]
     exact ⟨b', g2, zx7.mk (by simp -implicitDefEqProofs only [zy4, hne, hb2c, zy7.upd_upd, evF, ↓evZ, implies_true, seval, tf_D3_79])⟩
    have hbo := kidS_c hinv
    rw [List.take_length] at hinv hbo ⊢
    simp -implicitDefEqProofs only [List.length_map, hge, zy4, hne, hb2c, zy7.upd_upd, evF, ↓evZ, implies_true, seval, tf_D3_79]
    simp -implicitDefEqProofs only [hbo, zy4, hne, hb2c, zy7.upd_upd, evF, ↓evZ, implies_true, seval, tf_D3_79]
    have h1 := kidS_ne hinv hS hb2c
    rw [zy7.upd_same] at h1
    simp -implicitDefEqProofs only [h1, accV_store, accV_cells, zy4, Nat.le_refl, zy4, hne, hb2c, zy7.upd_upd, evF, ↓evZ, implies_true, seval, tf_D3_79]
    obtain ⟨h2, h3⟩ := kidS_upd (o := .cells [AV.int .i64 k, AV.int .i64 (n), AV.str s, accV 4 b ((ts.map (Tm.sh m)).map Tm.av)]) hinv hS hb2c
    refine ⟨b, _, _, h2, h3, tm_junk _, ⟨4, tm_widths _⟩, ?_, (((Drops.refl _).upd hb2).upd hn2).upd hb2⟩
    simp only [fin_agg, List.map_cons, List.map_nil, fin_int, fin_str, accV_fin, ← Tm.av_mk]
    rw [Tm.sh_mk, if_neg h]
termination_by t => SizeOf.sizeOf t
decreasing_by have := List.sizeOf_lt_of_mem hx; simp only [Tm.mk.sizeOf_spec]; omega
abbrev tf_C3_44 := zi tI_3 (zi zI_3 (zi underlying3 (zi tI_28 (zi zI_28 (zi eI_28 (zi eB_28 (zi eZ_28 (zi underlying28 (zi tI_58 (zi zI_58 (zi fI_58_0 (zi fI_58_1 bI_58))))))))))))
theorem c_IndexFuncCl (l : List Cl) (g : FuncId) (caps : List AV) (p : Cl → Bool) (st : zy7) (hc : ∀ x ∈ l, zq7 prog g ([clAv x] ++ caps) st (fun r st' => r = .bool (p x) ∧ st' = st)) :
 zq7 prog 44 [.slice (l.map clAv), .func g caps] st (fun r st' => ∃ j : Int, r = .int .i64 j ∧ decide (0 ≤ j) = l.any p ∧ st' = st) := by
 refine wF [] 2 func44 ntmps44 rfl rfl ?_
 simp only [fitsL, AV.fits, and_true, List.length_map]
 intro ⟨hl, _⟩
 simp -implicitDefEqProofs only [List.length_map, evF, ↓evZ, implies_true, seval, tf_C3_44]
 refine zy5 (σ := Unit) [] [0, 1, 7] l (fun i _ => (l.drop i).any p = l.any p) (fun i _ => [(8, .int .i64 i)]) (fun _ _ => st) (by decide +kernel) ⟨(), rfl, zx7.mk (by simp -implicitDefEqProofs only [evF, ↓evZ, implies_true, seval, tf_C3_44])⟩ (fun i x _ hx hlt hlt' hdr hinv => ?_) (fun _ hge hinv => ?_)
 case refine_2 =>
  simp -implicitDefEqProofs only [List.length_map, hge, evF, ↓evZ, implies_true, seval, tf_C3_44]
  rw [List.drop_length] at hinv
  exact ⟨-1, rfl, by rw [← hinv]; rfl⟩
 rw [hdr, List.any_cons] at hinv
 have hw := wrap64 (n := (i : Int) + 1) (by omega) (by omega)
 simp -implicitDefEqProofs only [List.length_map, hlt', ev_at (av := clAv) eI_28 hx (clAv_width x), clAv_agg, clAv_width, evF, ↓evZ, implies_true, seval, tf_C3_44]
 refine (hc x (List.mem_of_getElem? hx)).to ?_
 simp -implicitDefEqProofs only [evF, ↓evZ, implies_true, seval, tf_C3_44]
 refine zq4 (fun h => ?_) (fun h => ?_)
 · simp -implicitDefEqProofs only [evF, ↓evZ, implies_true, seval, tf_C3_44]
   exact ⟨i, rfl, by rw [← hinv, h]; simp⟩
 · rw [h, Bool.false_or] at hinv
   simp -implicitDefEqProofs only [evF, ↓evZ, implies_true, seval, tf_C3_44]
   exact ⟨(), hinv, zx7.mk (by simp -implicitDefEqProofs only [hw, evF, ↓evZ, implies_true, seval, tf_C3_44])⟩
abbrev tf_C3_29 := zi tI_3 (zi zI_3 (zi underlying3 (zi tI_4 (zi zI_4 (zi underlying4 (zi tI_28 (zi zI_28 (zi eI_28 (zi eB_28 (zi eZ_28 underlying28))))))))))
theorem c_ContainsFuncCl (l : List Cl) (g : FuncId) (caps : List AV) (p : Cl → Bool) (st : zy7) (hc : ∀ x ∈ l, zq7 prog g ([clAv x] ++ caps) st (fun r st' => r = .bool (p x) ∧ st' = st)) :
 zq7 prog 29 [.slice (l.map clAv), .func g caps] st (fun r st' => r = .bool (l.any p) ∧ st' = st) := by
 refine wF [] 2 func29 ntmps29 rfl rfl ?_
 intro _
 simp -implicitDefEqProofs only [evF, ↓evZ, implies_true, seval, tf_C3_29]
 refine (c_IndexFuncCl l g caps p st hc).mono ?_
 rintro _ _ ⟨j, rfl, hj, rfl⟩
 simp -implicitDefEqProofs only [hj, evF, ↓evZ, implies_true, seval, tf_C3_29]
abbrev tf_C3_31 := zi tI_4 (zi zI_4 (zi underlying4 (zi tI_29 (zi zI_29 (zi eI_29 (zi eB_29 (zi eZ_29 (zi underlying29 (zi tI_56 (zi zI_56 (zi fI_56_0 (zi fI_56_1 (zi fI_56_2 (zi fI_56_3 (zi bI_56 (zi tI_58 (zi zI_58 (zi fI_58_0 (zi fI_58_1 bI_58)))))))))))))))))))
theorem c_impl_ClauseValid (c : Cl) (st : zy7) : zq7 prog 31 [clAv c] st (fun r st' => r = .bool (clOk c) ∧ st' = st) := by
 obtain ⟨⟨k, n, s, ts⟩, b⟩ := c
 have hv := fun st => c_impl_TermValid (.mk k n s ts) st
 have hp := fun st => c_isPlain k n s ts st
 simp only [Tm.av_mk] at hv hp
 have hg := fun st => c_goalsValid b st
 simp only [clAv_mk, clOk, plainT]
 simp only [queryOk] at hg
 generalize (Tm.mk k n s ts).valid = v at *
 refine wF [1000000] 1 func31 ntmps31 rfl rfl ?_
 intro _
 simp -implicitDefEqProofs only [evF, ↓evZ, implies_true, seval, tf_C3_31]
 refine (hv _).to ?_
 cases v with
 | false => simp -implicitDefEqProofs only [Bool.false_and, evF, ↓evZ, implies_true, seval, tf_C3_31]
 | true =>
  simp -implicitDefEqProofs only [beq_self_eq_true, Bool.true_and, evF, ↓evZ, implies_true, seval, tf_C3_31]
  refine (hp _).to ?_
  cases hpl : plainGoal k s (ts.length : Int) with
  | false => simp -implicitDefEqProofs only [Bool.false_and, evF, ↓evZ, implies_true, seval, tf_C3_31]
  | true =>
   simp -implicitDefEqProofs only [beq_self_eq_true, Bool.true_and, evF, ↓evZ, implies_true, seval, tf_C3_31]
   refine (hg _).to ?_
   simp -implicitDefEqProofs only [evF, ↓evZ, implies_true, seval, tf_C3_31]
abbrev tf_C3_30 := zi tI_4 (zi zI_4 (zi underlying4 (zi tI_58 (zi zI_58 (zi fI_58_0 (zi fI_58_1 bI_58))))))
theorem c_ProgramValid_1 (c : Cl) (st : zy7) : zq7 prog 30 [clAv c] st (fun r st' => r = .bool (!clOk c) ∧ st' = st) := by
 refine wF [1000000] 1 func30 ntmps30 rfl rfl ?_
 intro _
 simp -implicitDefEqProofs only [clAv_junk, clAv_agg, clAv_width, evF, ↓evZ, implies_true, seval, tf_C3_30]
 refine (c_impl_ClauseValid c st).to ?_
 simp -implicitDefEqProofs only [evF, ↓evZ, implies_true, seval, tf_C3_30]
abbrev tf_C3_16 := zi tI_3 (zi zI_3 (zi underlying3 (zi tI_4 (zi zI_4 (zi underlying4 (zi tI_28 (zi zI_28 (zi eI_28 (zi eB_28 (zi eZ_28 underlying28))))))))))
theorem c_impl_ProgramValid (p : List Cl) (st : zy7) : zq7 prog 16 [.slice (p.map clAv)] st (fun r st' => r = .bool (progOk p) ∧ st' = st) := by
 refine wF [1000000] 1 func16 ntmps16 rfl rfl ?_
 simp only [fitsL, AV.fits, and_true, List.length_map]
 intro _
 unfold progOk
 simp -implicitDefEqProofs only [List.length_map, evF, ↓evZ, implies_true, seval, tf_C3_16]
 refine zx4 (fun h => ?_) (fun h => ?_)
 · simp only [decide_eq_true_eq] at h
   rw [show decide (p.length ≤ 20) = true by simp; omega]
   simp -implicitDefEqProofs only [h, List.length_map, evF, ↓evZ, implies_true, seval, tf_C3_16]
   refine (c_ContainsFuncCl p _ [] (fun t => !clOk t) st fun x _ => c_ProgramValid_1 x st).to ?_
   simp -implicitDefEqProofs only [h, any_not_all, List.length_map, evF, ↓evZ, implies_true, seval, tf_C3_16]
 · simp only [Bool.not_true, decide_eq_false_iff_not] at h
   rw [show decide (p.length ≤ 20) = false by simp; omega]
   simp -implicitDefEqProofs only [h, List.length_map, evF, ↓evZ, implies_true, seval, tf_C3_16]
   rfl
abbrev tf_C3_24 := zi tI_3 (zi zI_3 (zi underlying3 (zi tI_4 (zi zI_4 (zi underlying4 (zi tI_29 (zi zI_29 (zi eI_29 (zi eB_29 (zi eZ_29 (zi underlying29 (zi tI_56 (zi zI_56 (zi fI_56_0 (zi fI_56_1 (zi fI_56_2 (zi fI_56_3 (zi bI_56 (zi tI_58 (zi zI_58 (zi fI_58_0 (zi fI_58_1 bI_58))))))))))))))))))))))
theorem c_spec_ClauseValid (c : Cl) (st : zy7) : zq7 prog 24 [clAv c] st (fun r st' => r = .bool (clOk c) ∧ st' = st) := by
 obtain ⟨⟨k, n, s, ts⟩, l⟩ := c
 have hv := fun st => c_spec_TermValid (.mk k n s ts) st
 have hp := fun st => c_l4Plain k n s ts st
 simp only [Tm.av_mk] at hv hp
 simp only [clAv_mk, clOk, plainT]
 generalize (Tm.mk k n s ts).valid = v at *
 refine wF [1000000] 1 func24 ntmps24 rfl rfl ?_
 simp only [fitsL, AV.fits, and_true, List.length_map]
 intro ⟨_, _, _, _, hl, _⟩
 have hend : l.all Tm.goal = true ∨ l.length > 6 → (decide ((l.length : Int) ≤ 6) && v && plainGoal k s (ts.length : Int)) = (v && plainGoal k s (ts.length : Int) && (decide (l.length ≤ 6) && l.all Tm.goal)) := fun h => by
  by_cases h6 : l.length ≤ 6
  · have hg : l.all Tm.goal = true := h.resolve_right (by omega)
    rw [hg, show decide ((l.length : Int) ≤ 6) = true from decide_eq_true (by omega), show decide (l.length ≤ 6) = true from decide_eq_true h6]
    simp
  · rw [show decide ((l.length : Int) ≤ 6) = false from decide_eq_false (by omega), show decide (l.length ≤ 6) = false from decide_eq_false h6]
    simp
 simp -implicitDefEqProofs only [List.length_map, evF, ↓evZ, implies_true, seval, tf_C3_24]
 refine zy5 (σ := Unit) [1000000] [1] l (fun i _ => i ≤ 7 ∧ (l.take i).all Tm.goal = true) (fun i _ => [(2, .bool false), (3, .int .i64 i)]) (fun _ _ => st) (by decide +kernel) ⟨(), ⟨by omega, by simp⟩, zx7.mk (by simp -implicitDefEqProofs only [List.length_map, List.length_map, evF, ↓evZ, implies_true, seval, tf_C3_24])⟩ (fun i x _ hx hlt hlt' hdr hinv => ?_) (fun _ hge hinv => ?_)
 · obtain ⟨i1, i2⟩ := hinv
   have hw := wrap64 (n := (i : Int) + 1) (by omega) (by omega)
   by_cases h7 : i ≤ 6
   · have h7' : decide ((i : Int) ≤ 6) = true := decide_eq_true (by omega)
     have hat := ev_at (av := Tm.av) eI_29 hx (Tm.av_width x)
     simp -implicitDefEqProofs only [hlt', decide_true, beq_self_eq_true, List.length_map, h7', hat, Tm.av_agg, Tm.av_width, evF, ↓evZ, implies_true, seval, tf_C3_24]
     refine (c_spec_GoalValid x st).to ?_
     simp -implicitDefEqProofs only [List.length_map, h7', hat, Tm.av_agg, Tm.av_width, evF, ↓evZ, implies_true, seval, tf_C3_24]
     refine zq4 (fun h2 => ?_) (fun h2 => ?_)
     · simp only [Bool.not_eq_true'] at h2
       simp -implicitDefEqProofs only [List.length_map, h7', hat, Tm.av_agg, Tm.av_width, evF, ↓evZ, implies_true, seval, tf_C3_24]
       have : l.all Tm.goal = false := all_at hx h2
       rw [this]; simp
     · simp only [Bool.not_eq_false'] at h2
       simp -implicitDefEqProofs only [List.length_map, h7', hat, Tm.av_agg, Tm.av_width, evF, ↓evZ, implies_true, seval, tf_C3_24]
       refine ⟨(), ⟨by omega, ?_⟩, zx7.mk (by simp -implicitDefEqProofs only [hw, List.length_map, h7', hat, Tm.av_agg, Tm.av_width, evF, ↓evZ, implies_true, seval, tf_C3_24])⟩
       rw [List.take_add_one, hx, List.all_append, i2]
       simp [h2]
   · have h7' : decide ((i : Int) ≤ 6) = false := decide_eq_false (by omega)
     have h8 : decide ((l.length : Int) ≤ 6) = false := decide_eq_false (by omega)
     rw [← hend (.inr (by omega)), h8]
     simp -implicitDefEqProofs only [hlt', decide_true, beq_self_eq_true, h8, Bool.false_and, List.length_map, h7', evF, ↓evZ, implies_true, seval, tf_C3_24]
 · obtain ⟨i1, i2⟩ := hinv
   rw [List.take_length] at i2
   rw [← hend (.inl i2)]
   cases h8 : decide ((l.length : Int) ≤ 6) with
   | false =>
    simp -implicitDefEqProofs only [hge, List.length_map, h8, Bool.false_and, evF, ↓evZ, implies_true, seval, tf_C3_24]
   | true =>
    simp -implicitDefEqProofs only [hge, beq_self_eq_true, List.length_map, h8, Bool.true_and, evF, ↓evZ, implies_true, seval, tf_C3_24]
    refine (hv _).to ?_
    cases v with
    | false => simp -implicitDefEqProofs only [Bool.false_and, List.length_map, h8, Bool.true_and, evF, ↓evZ, implies_true, seval, tf_C3_24]
    | true =>
     simp -implicitDefEqProofs only [beq_self_eq_true, List.length_map, h8, Bool.true_and, evF, ↓evZ, implies_true, seval, tf_C3_24]
     refine (hp _).to ?_
     simp -implicitDefEqProofs only [List.length_map, h8, Bool.true_and, evF, ↓evZ, implies_true, seval, tf_C3_24]
abbrev tf_C3_11 := zi tI_3 (zi zI_3 (zi underlying3 (zi tI_4 (zi zI_4 (zi underlying4 (zi tI_28 (zi zI_28 (zi eI_28 (zi eB_28 (zi eZ_28 (zi underlying28 (zi tI_58 (zi zI_58 (zi fI_58_0 (zi fI_58_1 bI_58)))))))))))))))
theorem c_spec_ProgramValid (l : List Cl) (st : zy7) : zq7 prog 11 [.slice (l.map clAv)] st (fun r st' => r = .bool (progOk l) ∧ st' = st) := by
 refine wF [1000000] 1 func11 ntmps11 rfl rfl ?_
 simp only [fitsL, AV.fits, and_true, List.length_map]
 intro ⟨hl, _⟩
 simp -implicitDefEqProofs only [List.length_map, evF, ↓evZ, implies_true, seval, tf_C3_11]
 refine zy5 (σ := Unit) [1000000] [0] l (fun i _ => i ≤ 21 ∧ (l.take i).all clOk = true) (fun i _ => [(2, .bool false), (3, .int .i64 i)]) (fun _ _ => st) (by decide +kernel) ⟨(), ⟨by omega, by simp⟩, zx7.mk (by simp -implicitDefEqProofs only [List.length_map, List.length_map, evF, ↓evZ, implies_true, seval, tf_C3_11])⟩ (fun i x _ hx hlt hlt' hdr hinv => ?_) (fun _ hge hinv => ?_)
 · obtain ⟨i1, i2⟩ := hinv
   have hw := wrap64 (n := (i : Int) + 1) (by omega) (by omega)
   by_cases h7 : i ≤ 20
   · have h7' : decide ((i : Int) ≤ 20) = true := decide_eq_true (by omega)
     have hat := ev_at (av := clAv) eI_28 hx (clAv_width x)
     simp -implicitDefEqProofs only [hlt', decide_true, beq_self_eq_true, List.length_map, h7', hat, clAv_agg, clAv_width, evF, ↓evZ, implies_true, seval, tf_C3_11]
     refine (c_spec_ClauseValid x st).to ?_
     simp -implicitDefEqProofs only [List.length_map, h7', hat, clAv_agg, clAv_width, evF, ↓evZ, implies_true, seval, tf_C3_11]
     refine zq4 (fun h2 => ?_) (fun h2 => ?_)
     · simp only [Bool.not_eq_true'] at h2
       simp -implicitDefEqProofs only [List.length_map, h7', hat, clAv_agg, clAv_width, evF, ↓evZ, implies_true, seval, tf_C3_11]
       have : l.all clOk = false := all_at hx h2
       simp only [progOk, this, Bool.and_false]
     · simp only [Bool.not_eq_false'] at h2
       simp -implicitDefEqProofs only [List.length_map, h7', hat, clAv_agg, clAv_width, evF, ↓evZ, implies_true, seval, tf_C3_11]
       refine ⟨(), ⟨by omega, ?_⟩, zx7.mk (by simp -implicitDefEqProofs only [hw, List.length_map, h7', hat, clAv_agg, clAv_width, evF, ↓evZ, implies_true, seval, tf_C3_11])⟩
       rw [List.take_add_one, hx, List.all_append, i2]
       simp [h2]
   · have h7' : decide ((i : Int) ≤ 20) = false := decide_eq_false (by omega)
     have h8 : decide ((l.length : Int) ≤ 20) = false := decide_eq_false (by omega)
     have h9 : decide (l.length ≤ 20) = false := decide_eq_false (by omega)
     simp -implicitDefEqProofs only [hlt', decide_true, beq_self_eq_true, List.length_map, h7', h8, progOk, h9, Bool.false_and, evF, ↓evZ, implies_true, seval, tf_C3_11]
 · obtain ⟨i1, i2⟩ := hinv
   rw [List.take_length] at i2
   simp -implicitDefEqProofs only [hge, List.length_map, evF, ↓evZ, implies_true, seval, tf_C3_11]
   simp only [progOk, i2, Bool.and_true, AV.bool.injEq, decide_eq_decide]
   omega
end Go.AW
namespace Go.AW

def ownB : AV → List Nat
 | .mslice b _ _ _ => [b]
 | _ => []
def AccW (st : zy7) (w : Nat) (q : AV) (l : List AV) : Prop :=
 (q = .fslice [] ∧ l = []) ∨ ∃ b cs, q = .mslice b 0 l.length w ∧ st b = Option.some (.cells cs) ∧ cs.take (l.length * w) = l.flatMap AV.cells ∧ l.length * w ≤ cs.length
theorem AccW.shape {st : zy7} {w : Nat} {q : AV} {l : List AV} (h : AccW st w q l) : q.isAgg = false ∧ q.width = 1 ∧ q.isJunk = false ∧ q.cells = [q] ∧ q.storable = true := by
 rcases h with ⟨rfl, _⟩ | ⟨b', cs, rfl, _⟩ <;> exact ⟨rfl, rfl, rfl, rfl, rfl⟩
theorem AccW.keep {st st' : zy7} {w : Nat} {q : AV} {l : List AV} (h : AccW st w q l) (hk : ∀ b ∈ ownB q, st' b = st b) : AccW st' w q l := by
 rcases h with h | ⟨b, cs, rfl, hb, h2⟩
 · exact .inl h
 · exact .inr ⟨b, cs, rfl, by rw [hk b (by simp [ownB])]; exact hb, h2⟩
theorem AccW.some {st : zy7} {w : Nat} {q : AV} {l : List AV} (h : AccW st w q l) : ∀ b ∈ ownB q, ∃ cs, st b = Option.some (.cells cs) := by
 intro b hb
 rcases h with ⟨rfl, _⟩ | ⟨b', cs, rfl, hb', _⟩
 · simp [ownB] at hb
 · simp only [ownB, List.mem_cons, List.not_mem_nil, or_false] at hb; subst hb; exact ⟨cs, hb'⟩
theorem AccW.len {P : Program} {t e : TypeId} {st : zy7} {w : Nat} {q : AV} {l : List AV} (h : AccW st w q l) (hu : P.underlying t = Option.some (.slice e)) : aLen P t q = Option.some (.int .i64 (l.length : Int)) := by
 rcases h with ⟨rfl, rfl⟩ | ⟨b, cs, rfl, _⟩ <;> simp only [aLen, hu, List.length_nil]
theorem AccW.append {P : Program} {t : TypeId} {ag : Bool} {bytes w : Nat} {zs : List AV} {st : zy7} {q : AV} {l : List AV} {x : AV} {K : AV → zy7 → Prop} (hI : eI P t = Option.some (ag, w)) (hB : eB P t = Option.some bytes) (hZ : eZ P t = Option.some zs) (hz : zs.length = w) (hb8 : bytes ≤ 4096)
 (h : AccW st w q l) (hx : x.width = w) (hxs : x.cells.all AV.storable = true) (hl : l.length ≤ 1073741824)
 (hK : ∀ q' st', AccW st' w q' (l ++ [x]) → (∀ y, y ∉ ownB q → y ∉ ownB q' → st' y = st y) → (∀ y ∈ ownB q', y ∈ ownB q ∨ st y = none) → K q' st') : aAppend P t st q (.fslice [x]) K := by
 have hfit : appFit w [x] := by intro e he; simp only [List.mem_cons, List.not_mem_nil, or_false] at he; subst he; exact ⟨hx, hxs⟩
 have hbytes : (l.length + 1) * bytes ≤ 140737488355328 := by
  have := Nat.mul_le_mul (show l.length + 1 ≤ 1073741825 by omega) hb8
  omega
 have hxc : x.cells.length = w := by rw [cells_width, hx]
 unfold aAppend
 simp only [hI, hB, hZ, aElems]
 refine ⟨hz, hfit, ?_⟩
 rcases h with ⟨rfl, rfl⟩ | ⟨b, cs, rfl, hb, hcs, hcl⟩
 · simp only [List.length_nil, List.length_cons, Nat.zero_add] at hbytes ⊢
   refine ⟨by omega, by omega, by simp, fun h => by simp at h, fun _ b hb => ?_⟩
   refine hK _ _ (.inr ⟨b, x.cells, rfl, by rw [zy7.upd_same]; simp, ?_, ?_⟩) (fun y _ hy => ?_) (fun y hy => ?_)
   · simp only [List.nil_append, List.length_cons, List.length_nil, Nat.zero_add, Nat.one_mul, List.flatMap_cons, List.flatMap_nil, List.append_nil]
     rw [← hxc, List.take_length]
   · simp only [List.nil_append, List.length_cons, List.length_nil, Nat.zero_add, Nat.one_mul]
     omega
   · simp only [ownB, List.mem_cons, List.not_mem_nil, or_false] at hy
     rw [zy7.upd_ne _ _ hy]
   · simp only [ownB, List.mem_cons, List.not_mem_nil, or_false] at hy
     subst hy; exact .inr hb
 · simp only [List.length_cons, List.length_nil, Nat.zero_add, hb]
   have hnew : cs.take (l.length * w) ++ [x].flatMap AV.cells = (l ++ [x]).flatMap AV.cells := by rw [hcs]; simp
   have hlen : ((l ++ [x]).flatMap AV.cells).length = (l ++ [x]).length * w := by
    rw [← hnew, List.length_append, List.length_take, Nat.min_eq_left hcl]
    simp only [List.flatMap_cons, List.flatMap_nil, List.append_nil, hxc, List.length_append, List.length_cons, List.length_nil]
    rw [Nat.add_mul]; omega
   refine ⟨trivial, hbytes, by omega, hcl, ?_, fun b' hb' => ?_⟩
   · rw [hnew]
     refine hK _ _ (.inr ⟨b, _, by simp, zy7.upd_same _ _ _, by rw [List.take_of_length_le (by rw [hlen]; exact Nat.le_refl _)], by rw [hlen]; exact Nat.le_refl _⟩) (fun y hy _ => ?_) (fun y hy => .inl hy)
     simp only [ownB, List.mem_cons, List.not_mem_nil, or_false] at hy
     rw [zy7.upd_ne _ _ hy]
   · rw [hnew]
     refine hK _ _ (.inr ⟨b', _, by simp, zy7.upd_same _ _ _, by rw [List.take_of_length_le (by rw [hlen]; exact Nat.le_refl _)], by rw [hlen]; exact Nat.le_refl _⟩) (fun y hy hy' => ?_) (fun y hy => ?_)
     · simp only [ownB, List.mem_cons, List.not_mem_nil, or_false] at hy hy'
       rw [zy7.upd_ne _ _ hy']
       simp [zy7.erase, hy]
     · simp only [ownB, List.mem_cons, List.not_mem_nil, or_false] at hy
       subst hy; exact .inr hb'
def cutQ (k : Nat) : AV → AV
 | .mslice b o _ w => .mslice b o k w
 | a => a
theorem AccW.take {st : zy7} {w : Nat} {q : AV} {l : List AV} (h : AccW st w q l) {k : Nat} (hk : k ≤ l.length) (hw : ∀ e ∈ l, e.width = w) : AccW st w (cutQ k q) (l.take k) := by
 rcases h with ⟨rfl, rfl⟩ | ⟨b, cs, rfl, hb, hcs, hcl⟩
 · exact .inl ⟨rfl, by simp⟩
 · have hlk : (l.take k).length = k := by rw [List.length_take]; omega
   have h1 : k * w ≤ l.length * w := Nat.mul_le_mul_right w hk
   refine .inr ⟨b, cs, by rw [hlk]; rfl, hb, ?_, by rw [hlk]; omega⟩
   rw [hlk]
   have h2 : cs.take (k * w) = (cs.take (l.length * w)).take (k * w) := by rw [List.take_take, Nat.min_eq_left h1]
   rw [h2, hcs]
   have h3 : l.flatMap AV.cells = (l.take k).flatMap AV.cells ++ (l.drop k).flatMap AV.cells := by rw [← List.flatMap_append, List.take_append_drop]
   have h4 : ((l.take k).flatMap AV.cells).length = k * w := by rw [flat_length (n := w) (es := l.take k) (fun e he => hw e (List.mem_of_mem_take he)), hlk]
   rw [h3, List.take_left' h4]
theorem ownB_cutQ (k : Nat) (q : AV) : ownB (cutQ k q) = ownB q := by cases q <;> rfl
theorem AccW.at {st : zy7} {w : Nat} {q : AV} {l : List AV} (h : AccW st w q l) (hw : ∀ e ∈ l, e.width = w) {i : Nat} {e : AV} (he : l[i]? = .some e) :
 ∃ b cs, q = .mslice b 0 l.length w ∧ st b = .some (.cells cs) ∧ i * w + w ≤ cs.length ∧ (cs.drop (i * w)).take w = e.cells := by
 obtain ⟨hi, hei⟩ := List.getElem?_eq_some_iff.1 he
 rcases h with ⟨rfl, rfl⟩ | ⟨b, cs, rfl, hb, hcs, hcl⟩
 · simp at he
 · have h1 : (i + 1) * w ≤ l.length * w := Nat.mul_le_mul_right w hi
   rw [Nat.add_mul, Nat.one_mul] at h1
   refine ⟨b, cs, rfl, hb, by omega, ?_⟩
   have h2 : l = l.take i ++ e :: l.drop (i + 1) := by rw [← hei, ← List.drop_eq_getElem_cons hi, List.take_append_drop]
   have hA : ((l.take i).flatMap AV.cells).length = i * w := by
    rw [flat_length (n := w) (es := l.take i) (fun e he => hw e (List.mem_of_mem_take he)), List.length_take, Nat.min_eq_left (by omega)]
   have hE : e.cells.length = w := by rw [cells_width]; exact hw e (List.mem_of_getElem? he)
   have h3 : (cs.drop (i * w)).take w = ((cs.take (l.length * w)).drop (i * w)).take w := by
    rw [List.drop_take, List.take_take, Nat.min_eq_left (by omega)]
   rw [h3, hcs, h2]
   simp only [List.flatMap_append, List.flatMap_cons]
   rw [List.drop_left' hA, List.take_left' hE]
theorem VRelL.fz {h : Heap} {st : zy7} {b : Nat} {es : List AV} (S : SRel h st) (hb : st b = some (.cells (es.flatMap AV.cells))) (hj : ∀ e ∈ es, e.isJunk = false) (hE : Even es) : ∀ {us : List AV} {vs : List Value}, VRelL h st us vs → VRelL h (st.erase b) (fzL b es us) vs
 | [], vs, x => by simp only [VRelL] at x; simp [fzL, VRelL, x]
 | a :: us, vs, x => by
  simp only [VRelL] at x
  obtain ⟨v, r, rfl, x1, x2⟩ := x
  simp only [fzL, VRelL]
  exact ⟨v, r, rfl, x1.fz S hb hj hE, VRelL.fz S hb hj hE x2⟩
theorem StepH.unerase {h h' : Heap} {st st' : zy7} {b : Nat} (x : StepH h (st.erase b) h' st') : StepH h st h' st' :=
 ⟨x.size, fun c hc e => x.keep c hc (zy7.erase_none st e), x.shape⟩
theorem zq7.frzA {P : Program} {g : FuncId} {args : List AV} {st : zy7} {Q : AV → zy7 → Prop} (b : Nat) (es : List AV) (hb : st b = some (.cells (es.flatMap AV.cells))) (hj : ∀ e ∈ es, e.isJunk = false) (hE : Even es) (x : zq7 P g (fzL b es args) (st.erase b) Q) : zq7 P g args st Q :=
 ⟨x.1, fun w vs S V => (x.2 w vs ((Drops.erase' st b).srel S) (V.fz S hb hj hE)).mono fun _ _ ⟨v, r, st', e, a, b', c, d, q⟩ => ⟨v, r, st', e, a, b', c.unerase, d, q⟩⟩
def Lit (st : zy7) (w : Nat) (l : List AV) (q : AV) (s : zy7) : Prop := (q = .fslice l ∧ s = st) ∨ ∃ b, st b = none ∧ q = .mslice b 0 l.length w ∧ s = st.upd b (.cells (l.flatMap AV.cells))
theorem app_lit {P : Program} {t : TypeId} {ag : Bool} {w bytes : Nat} {zs : List AV} {st : zy7} {es xs : List AV} {x : AV} {K : AV → zy7 → Prop} (hI : eI P t = some (ag, w)) (hB : eB P t = some bytes) (hZ : eZ P t = some zs) (hz : zs.length = w) (hx : x = .slice xs ∨ x = .fslice xs) (hes : ∀ e ∈ es, e.width = w) (hfit : appFit w xs) (hl : (es.length + xs.length) * bytes ≤ 140737488355328) (hl2 : es.length + xs.length ≤ 9223372036854775807)
 (hK : ∀ q s, Lit st w (es ++ xs) q s → K q s) : aAppend P t st (.fslice es) x K := by
 unfold aAppend
 have he : aElems x = some xs := by rcases hx with rfl | rfl <;> rfl
 simp only [hI, hB, hZ, he]
 refine ⟨hz, hfit, hl, hl2, hes, fun h => ?_, fun _ b hb => ?_⟩
 · subst h
   exact hK _ _ (.inl ⟨by rw [List.append_nil], rfl⟩)
 · exact hK _ _ (.inr ⟨b, hb, by rw [List.length_append], rfl⟩)
theorem Lit.call {P : Program} {g : FuncId} {st s : zy7} {w : Nat} {l : List AV} {q : AV} {post : List AV} {Q : AV → zy7 → Prop} (h : Lit st w l q s) (hj : ∀ e ∈ l, e.isJunk = false) (hw : ∀ e ∈ l, e.width = w) (hp : ∀ b, fzL b l post = post) (x : zq7 P g (.slice l :: post) st Q) : zq7 P g (q :: post) s Q := by
 rcases h with ⟨rfl, rfl⟩ | ⟨b, hb, rfl, rfl⟩
 · refine zq7.args x fun hp vs S V => ?_
   simp only [VRelL] at V ⊢
   obtain ⟨v, r, rfl, V1, V2⟩ := V
   exact ⟨v, r, rfl, V1.fslice_slice, V2⟩
 · refine zq7.frzA b l (zy7.upd_same _ _ _) hj ⟨w, hw⟩ ?_
   rw [zy7.erase_upd st b _ hb]
   have : fzL b l (.mslice b 0 l.length w :: post) = .slice l :: post := by
    show (AV.mslice b 0 l.length w).fz b l :: fzL b l post = _
    rw [hp]
    simp [AV.fz]
   rw [this]
   exact x
end Go.AW
namespace Go.AW
open Go.Proofs.Tryz
def nv (i : Nat) : AV := .int .i64 (i : Int)
def rgAv : RG → AV
 | ⟨.mk k n s ts, keep⟩ => .agg [.int .i64 k, .int .i64 n, .str s, .slice (ts.map Tm.av), .int .i64 (keep : Int)]
theorem rgAv_mk (k n : Int) (s : ByteArray) (ts : List Tm) (keep : Nat) : rgAv ⟨.mk k n s ts, keep⟩ = .agg [.int .i64 k, .int .i64 n, .str s, .slice (ts.map Tm.av), .int .i64 (keep : Int)] := rfl
theorem rgAv_of (g : RG) : rgAv g = .agg (g.t.av.cells ++ [.int .i64 (g.keep : Int)]) := by obtain ⟨⟨k, n, s, ts⟩, keep⟩ := g; rw [Tm.av_mk]; rfl
theorem rgAv_width (g : RG) : (rgAv g).width = 5 := by obtain ⟨⟨k, n, s, ts⟩, keep⟩ := g; rfl
theorem rgAv_store (g : RG) : (rgAv g).cells.all AV.storable = true := by obtain ⟨⟨k, n, s, ts⟩, keep⟩ := g; rfl
theorem rgAv_junk (g : RG) : (rgAv g).isJunk = false := by obtain ⟨⟨k, n, s, ts⟩, keep⟩ := g; rfl
def rcAv : RC → AV
 | ⟨.mk k n s ts, rest, left, σ, N⟩ => .agg [.int .i64 k, .int .i64 n, .str s, .slice (ts.map Tm.av), .slice (rest.map rgAv), .slice (left.map nv), .slice (arrN N σ)]
theorem rcAv_width (g : RC) : (rcAv g).width = 7 := by obtain ⟨⟨k, n, s, ts⟩, _, _, _, _⟩ := g; rfl
theorem rcAv_store (g : RC) : (rcAv g).cells.all AV.storable = true := by obtain ⟨⟨k, n, s, ts⟩, _, _, _, _⟩ := g; rfl
theorem rcAv_junk (g : RC) : (rcAv g).isJunk = false := by obtain ⟨⟨k, n, s, ts⟩, _, _, _, _⟩ := g; rfl
def rsAv (s : RS) : AV := .agg [.slice (s.goals.map rgAv), .slice (arrN s.N s.σ), .slice (s.chs.map rcAv)]
abbrev tf_R1_81 := zi tI_3 (zi zI_3 (zi underlying3 (zi tI_4 (zi zI_4 (zi underlying4 (zi tI_29 (zi zI_29 (zi eI_29 (zi eB_29 (zi eZ_29 (zi underlying29 (zi tI_56 (zi zI_56 (zi fI_56_0 (zi fI_56_1 (zi fI_56_2 (zi fI_56_3 bI_56)))))))))))))))))
theorem c_l6Flat : ∀ (t : Tm) (d : Nat) (st : zy7), d ≤ 1000 → t.small = true → zq7 prog 81 [t.av, .int .i64 (d : Int)] st (fun r st' => r = .bool (t.flat d) ∧ st' = st)
 | .mk k n s ts, d, st, hd, hsm => by
  obtain ⟨hlen, hsms⟩ := Tm.small_mk hsm
  have IH := fun (x : Tm) (hx : x ∈ ts) d st h => c_l6Flat x d st h (hsms x hx)
  simp only [Tm.av_mk]
  refine wF [1000000] 2 func81 ntmps81 rfl rfl ?_
  intro _
  simp -implicitDefEqProofs only [List.length_map, evF, ↓evZ, implies_true, seval, tf_R1_81]
  refine zq4 (fun h => ?_) (fun h => ?_)
  · simp only [decide_eq_true_eq] at h
    obtain rfl : d = 0 := by omega
    simp -implicitDefEqProofs only [List.length_map, evF, ↓evZ, implies_true, seval, tf_R1_81]
    rw [Tm.flat_zero]
  simp only [decide_eq_false_iff_not] at h
  obtain ⟨e, rfl⟩ : ∃ e, d = e + 1 := ⟨d - 1, by omega⟩
  rw [Tm.flat_succ]
  have hw1 : IntKind.i64.wrap ((e : Int) + 1 - 1) = (e : Int) := by rw [wrap64 (by omega) (by omega)]; omega
  simp -implicitDefEqProofs only [List.length_map, evF, ↓evZ, implies_true, seval, tf_R1_81]
  refine zy5 (σ := Unit) [1000000] [1, 2] ts (fun i _ => ((ts.drop i).all fun t => t.flat e) = (ts.all fun t => t.flat e)) (fun i _ => [(5, .int .i64 i)]) (fun _ _ => st) (by decide +kernel) ⟨(), rfl, zx7.mk (by simp -implicitDefEqProofs only [List.length_map, evF, ↓evZ, implies_true, seval, tf_R1_81])⟩ (fun i x _ hx hlt hlt' hdr hinv => ?_) (fun _ hge hinv => ?_)
  case refine_2 =>
   simp -implicitDefEqProofs only [hge, List.length_map, evF, ↓evZ, implies_true, seval, tf_R1_81]
   rw [← hinv, List.drop_length]
   rfl
  have hw := wrap64 (n := (i : Int) + 1) (by omega) (by omega)
  rw [hdr, List.all_cons] at hinv
  simp -implicitDefEqProofs only [hlt', List.length_map, ev_at (av := Tm.av) eI_29 hx (Tm.av_width x), Tm.av_agg, Tm.av_width, hw1, evF, ↓evZ, implies_true, seval, tf_R1_81]
  refine (IH x (List.mem_of_getElem? hx) e _ (by omega)).to ?_
  simp -implicitDefEqProofs only [List.length_map, ev_at (av := Tm.av) eI_29 hx (Tm.av_width x), Tm.av_agg, Tm.av_width, hw1, evF, ↓evZ, implies_true, seval, tf_R1_81]
  refine zq4 (fun h2 => ?_) (fun h2 => ?_)
  · simp -implicitDefEqProofs only [List.length_map, ev_at (av := Tm.av) eI_29 hx (Tm.av_width x), Tm.av_agg, Tm.av_width, hw1, evF, ↓evZ, implies_true, seval, tf_R1_81]
    simp only [Bool.not_eq_true'] at h2
    rw [← hinv, h2]
    rfl
  · simp only [Bool.not_eq_false'] at h2
    rw [h2, Bool.true_and] at hinv
    simp -implicitDefEqProofs only [List.length_map, ev_at (av := Tm.av) eI_29 hx (Tm.av_width x), Tm.av_agg, Tm.av_width, hw1, evF, ↓evZ, implies_true, seval, tf_R1_81]
    exact ⟨(), hinv, zx7.mk (by simp -implicitDefEqProofs only [hw, List.length_map, ev_at (av := Tm.av) eI_29 hx (Tm.av_width x), Tm.av_agg, Tm.av_width, hw1, evF, ↓evZ, implies_true, seval, tf_R1_81])⟩
termination_by t => SizeOf.sizeOf t
decreasing_by have := List.sizeOf_lt_of_mem hx; simp only [Tm.mk.sizeOf_spec]; omega
abbrev tf_R1_59 := zi tI_3 (zi zI_3 (zi underlying3 (zi tI_4 (zi zI_4 (zi underlying4 (zi tI_29 (zi zI_29 (zi eI_29 (zi eB_29 (zi eZ_29 (zi underlying29 (zi tI_30 (zi zI_30 (zi fI_30_0 (zi fI_30_1 (zi fI_30_2 (zi fI_30_3 (zi fI_30_4 (zi fI_30_5 (zi bI_30 (zi tI_56 (zi zI_56 (zi fI_56_0 (zi fI_56_1 (zi fI_56_2 (zi fI_56_3 bI_56))))))))))))))))))))))))))
theorem c_l6Small {N : Nat} {σ : Sub} (hg : IsGood σ) (ho : AllS (OkX N) σ) (t : Tm) (ht : OkX N t) (st : zy7) :
 zq7 prog 59 [t.av, .slice (arrN N σ)] st (fun r st' => st' = st ∧ ∃ x : Tm, r = .tup [x.av, .bool (fitT (t.mapv (rs σ)))] ∧ (fitT (t.mapv (rs σ)) = true → x = t.mapv (rs σ))) := by
 obtain ⟨rk, B, G⟩ := hg.rs
 have hfull := fun st => cI_l3Full G ho 120 t st (Nat.le_refl _) ht
 have hV := G.okVT ho.okV ht.1
 refine zq7.dropS (zq7.soft ?_)
 refine wF [1000000] 2 func59 ntmps59 rfl rfl ?_
 intro _
 simp -implicitDefEqProofs only [zy4, Tm.av_agg, Tm.av_width, Tm.av_store, Tm.av_junk, evF, ↓evZ, implies_true, seval, tf_R1_59]
 intro b4 h4
 refine (hfull _).mono ?_
 rintro _ _ ⟨rfl, x, left, rfl, h1, h2⟩
 simp -implicitDefEqProofs only [zy4, Tm.av_agg, Tm.av_width, Tm.av_store, Tm.av_junk, evF, ↓evZ, implies_true, seval, tf_R1_59]
 refine wP [(1, 1), (2, 1), (3, 1), (4, 2), (0, 1), (5, 0), (6, 1), (7, 0), (8, 1)] [1, 2, 3, 4, 0, 6, 8] mixed ?_
 simp -implicitDefEqProofs only [zy4, Tm.av_agg, Tm.av_width, Tm.av_store, Tm.av_junk, Tm.av_cells, take_all (Tm.av_cells x), agg_cells (Tm.av_agg x), Nat.le_refl, evF, ↓evZ, implies_true, seval, tf_R1_59]
 refine zx4 (fun h => ?_) (fun h => ?_)
 · have h3 : 0 ≤ left := by simpa using h
   have h4 : (t.mapv (rs σ)).nodes ≤ 120 := Classical.byContradiction fun h5 => by rw [if_neg h5] at h2; omega
   rw [if_pos h4] at h2
   obtain ⟨rfl, _⟩ := h2
   have h5 : fitT (t.mapv (rs σ)) = (t.mapv (rs σ)).flat 30 := by unfold fitT; simp [h4]
   simp -implicitDefEqProofs only [h, zy4, Tm.av_agg, Tm.av_width, Tm.av_store, Tm.av_junk, Tm.av_cells, Nat.le_refl, evF, ↓evZ, implies_true, seval, tf_R1_59]
   refine (c_l6Flat _ 30 _ (by omega) hV.small).to ?_
   simp -implicitDefEqProofs only [h, zy4, Tm.av_agg, Tm.av_width, Tm.av_store, Tm.av_junk, Tm.av_cells, Nat.le_refl, evF, ↓evZ, implies_true, seval, tf_R1_59]
   refine ⟨st, (Drops.refl _).upd ‹_›, rfl, _, by simp only [soft_agg, soft_tup, soft_int, soft_bool, soft_str, soft_slice, soft_fslice, soft_ptr, soft_pptr, soft_map, soft_mslice, Tm.soft, List.map_cons, List.map_nil]; rw [h5], fun _ => rfl⟩
 · have hx0 := trivial
   have h3 : left < 0 := by simpa using h
   have h4 : ¬ (t.mapv (rs σ)).nodes ≤ 120 := fun h5 => by rw [if_pos h5] at h2; omega
   have h5 : fitT (t.mapv (rs σ)) = false := by unfold fitT; simp [h4]
   simp -implicitDefEqProofs only [h, zy4, Tm.av_agg, Tm.av_width, Tm.av_store, Tm.av_junk, Tm.av_cells, take_all (Tm.av_cells x), agg_cells (Tm.av_agg x), Nat.le_refl, evF, ↓evZ, implies_true, seval, tf_R1_59]
   refine ⟨st, (Drops.refl _).upd ‹_›, rfl, x, by simp only [soft_agg, soft_tup, soft_int, soft_bool, soft_str, soft_slice, soft_fslice, soft_ptr, soft_pptr, soft_map, soft_mslice, Tm.soft, List.map_cons, List.map_nil]; rw [h5], fun h6 => ?_⟩
   rw [h5] at h6; cases h6
theorem frI_take (c : Cl) : frI c = (tmsVars (c.1 :: c.2) []).foldl (fun n v => if n ≤ v then v + 1 else n) 0 := rfl
abbrev tf_R1_92 := zi tI_3 (zi zI_3 (zi underlying3 (zi tI_29 (zi zI_29 (zi eI_29 (zi eB_29 (zi eZ_29 (zi underlying29 (zi tI_56 (zi zI_56 (zi fI_56_0 (zi fI_56_1 (zi fI_56_2 (zi fI_56_3 (zi bI_56 (zi tI_58 (zi zI_58 (zi fI_58_0 (zi fI_58_1 (zi bI_58 (zi tI_66 (zi zI_66 (zi eI_66 (zi eB_66 (zi eZ_66 underlying66)))))))))))))))))))))))))
theorem c_l6Fresh (c : Cl) (hc : ClX c) (h6 : c.2.length ≤ 6) (st : zy7) : zq7 prog 92 [clAv c] st (fun r st' => r = .int .i64 (frN c : Int) ∧ st' = st) := by
 have hvr := fun v => hc.vars (v := v)
 have hok := hc.okAll
 have hfr : (frN c : Int) = frI c := by
  have := (fr_fold (tmsVars (c.1 :: c.2) []) 0).1
  unfold frN frI
  omega
 rw [hfr, frI_take]
 have hnd : sumL Tm.nodes (c.1 :: c.2) ≤ 1099511627776 := by
  have : ∀ l : List Tm, (∀ t ∈ l, OkX 26 t) → sumL Tm.nodes l ≤ l.length * 120 := by
   intro l
   induction l with
   | nil => intro _; simp [sumL]
   | cons x l ih => intro h; simp only [sumL, List.length_cons]; have := ih fun y hy => h y (by simp [hy]); have := (h x (by simp)).2; omega
  have := this _ hok
  simp only [List.length_cons] at this
  omega
 have hvl := tmsVars_len (c.1 :: c.2) []
 obtain ⟨⟨k, n, s, ts⟩, bd⟩ := c
 simp only at h6 hnd hvl hvr hok
 rw [clAv_mk]
 refine zq7.done ?_
 refine wF [1000000] 1 func92 ntmps92 rfl rfl ?_
 intro _
 simp -implicitDefEqProofs only [List.length_map, evF, ↓evZ, implies_true, seval, tf_R1_92]
 refine app_lit eI_29 eB_29 eZ_29 rfl (.inl rfl) (by intro e he; simp only [List.mem_cons, List.not_mem_nil, or_false] at he; subst he; rfl) (fun e he => by simp only [List.mem_map] at he; obtain ⟨t, _, rfl⟩ := he; exact ⟨Tm.av_width _, Tm.av_store _⟩) (by simp only [List.length_cons, List.length_nil, List.length_map]; omega) (by simp only [List.length_cons, List.length_nil, List.length_map]; omega) (fun q s2 hq => ?_)
 rw [← Tm.av_mk] at hq
 rw [show [(Tm.mk k n s ts).av] ++ bd.map Tm.av = ((Tm.mk k n s ts) :: bd).map Tm.av from rfl] at hq
 simp -implicitDefEqProofs only [List.length_map, evF, ↓evZ, implies_true, seval, tf_R1_92]
 refine Lit.call hq (tm_junk _) (tm_widths _) (fun _ => rfl) ?_
 refine (c_l6Vars _ _ (fun t ht => Tm.cv_wf t (hok t ht).1.2.1) hnd).to ?_
 generalize tmsVars ((Tm.mk k n s ts) :: bd) [] = vs at *
 simp only [List.length_nil] at hvl
 simp -implicitDefEqProofs only [List.length_map, evF, ↓evZ, implies_true, seval, tf_R1_92]
 refine zy5 (σ := Int) [1000000] [2, 3] vs (fun i n => (vs.drop i).foldl (fun n v => if n ≤ v then v + 1 else n) n = vs.foldl (fun n v => if n ≤ v then v + 1 else n) 0) (fun i n => [(4, .int .i64 n), (5, .int .i64 i)]) (fun _ _ => st) (by decide +kernel) ⟨0, rfl, zx7.mk (by simp -implicitDefEqProofs only [List.length_map, evF, ↓evZ, implies_true, seval, tf_R1_92])⟩ (fun i x n hx hlt hlt' hdr hinv => ?_) (fun n hge hinv => ?_)
 case refine_2 =>
  rw [List.drop_length] at hinv
  simp -implicitDefEqProofs only [List.length_map, hge, evF, ↓evZ, implies_true, seval, tf_R1_92]
  refine ⟨?_, Drops.refl _⟩
  rw [← hinv]
  rfl
 rw [hdr, List.foldl_cons] at hinv
 have hw := wrap64 (n := (i : Int) + 1) (by omega) (by omega)
 obtain ⟨t, ht, hv⟩ := (hvr x).1 (List.mem_of_getElem? hx)
 have hx26 := (hok t ht).1.2.2 x hv
 have hw2 := wrap64 (n := x + 1) (by omega) (by omega)
 have hat : aIndexAddr prog 66 (.slice (vs.map iv)) (.int .i64 (i : Int)) = some (.pptr (.int .i64 x)) := ev_at (av := iv) eI_66 hx rfl
 simp -implicitDefEqProofs only [List.length_map, hlt', hat, hw2, hw, evF, ↓evZ, implies_true, seval, tf_R1_92]
 refine zq4 (fun h => ?_) (fun h => ?_)
 · rw [if_pos (by simpa using h)] at hinv
   simp -implicitDefEqProofs only [List.length_map, hlt', hat, hw2, hw, evF, ↓evZ, implies_true, seval, tf_R1_92]
   exact ⟨x + 1, hinv, zx7.mk (by simp -implicitDefEqProofs only [hw, List.length_map, hlt', hat, hw2, hw, evF, ↓evZ, implies_true, seval, tf_R1_92])⟩
 · rw [if_neg (by simpa using h)] at hinv
   simp -implicitDefEqProofs only [List.length_map, hlt', hat, hw2, hw, evF, ↓evZ, implies_true, seval, tf_R1_92]
   exact ⟨n, hinv, zx7.mk (by simp -implicitDefEqProofs only [hw, List.length_map, hlt', hat, hw2, hw, evF, ↓evZ, implies_true, seval, tf_R1_92])⟩
theorem sh_shf {M : Int} (m : Nat) (hm : M + m ≤ 1073741824) : ∀ t : Tm, OkV M t → t.sh (m : Int) = shf m t := by
 intro t
 induction t using Tm.ind with
 | h k n s ts ih =>
  intro h
  rw [Tm.sh_mk]
  by_cases hk : k = 1
  · subst hk
    obtain ⟨h0, h1, rfl, rfl⟩ := h.var
    unfold shf
    rw [if_pos rfl, ren_var _ (t := .mk 1 n ⟨#[]⟩ []) rfl, wrap64 (by omega) (by omega)]
    rfl
  · obtain ⟨_, h2⟩ := h.own hk
    unfold shf at ih ⊢
    rw [if_neg hk, ren_mk _ hk]
    congr 1
    exact List.map_congr_left fun x hx => ih x hx (h2 x hx)
abbrev tf_R2_58 := zi tI_3 (zi zI_3 (zi underlying3 (zi tI_29 (zi zI_29 (zi eI_29 (zi eB_29 (zi eZ_29 (zi underlying29 (zi tI_56 (zi zI_56 (zi fI_56_0 (zi fI_56_1 (zi fI_56_2 (zi fI_56_3 (zi bI_56 (zi tI_68 (zi zI_68 (zi eI_68 (zi eB_68 (zi eZ_68 (zi underlying68 (zi tI_96 (zi zI_96 (zi fI_96_0 (zi fI_96_1 bI_96)))))))))))))))))))))))))
theorem c_l6Goals (bd : List Tm) (N keep : Nat) (rest : List RG) (hb : ∀ t ∈ bd, OkX 26 t) (h6 : bd.length ≤ 6) (hN : N ≤ 1048576) (hr : rest.length ≤ 1048576) (st : zy7) :
 zq7 prog 58 [.slice (bd.map Tm.av), .int .i64 (N : Int), .int .i64 (keep : Int), .slice (rest.map rgAv)] st (fun r st' => r = .slice ((bd.map (fun t => (⟨shf N t, keep⟩ : RG)) ++ rest).map rgAv) ∧ st' = st) := by
 refine zq7.drop2 (zq7.fin ?_)
 refine wF [1000000] 4 func58 ntmps58 rfl rfl ?_
 intro _
 simp -implicitDefEqProofs only [List.length_map, evF, ↓evZ, implies_true, seval, tf_R2_58]
 refine zy5 (σ := Nat) [1000000] [0, 1, 2, 3, 8] bd (fun i b => ((bd.take i).map (fun t => (⟨shf N t, keep⟩ : RG))).map rgAv ≠ [] → st b = none) (fun i b => [(9, accV 5 b (((bd.take i).map (fun t => (⟨shf N t, keep⟩ : RG))).map rgAv)), (10, .int .i64 i)]) (fun i b => accS st b (((bd.take i).map (fun t => (⟨shf N t, keep⟩ : RG))).map rgAv)) (by decide +kernel) ⟨0, fun h => absurd rfl h, zx7.mk (by simp -implicitDefEqProofs only [List.take_zero, List.map_nil, accV_nil, accS_nil, List.length_map, evF, ↓evZ, implies_true, seval, tf_R2_58])⟩ (fun i x b hx hlt hlt' hdr hinv => ?_) (fun b hge hinv => ?_)
 case refine_1 =>
  have hw := wrap64 (n := (i : Int) + 1) (by omega) (by omega)
  have hlen' : (((bd.take i).map (fun t => (⟨shf N t, keep⟩ : RG))).map rgAv).length = i := by simp only [List.length_map, List.length_take]; omega
  have htk : (((bd.take i).map (fun t => (⟨shf N t, keep⟩ : RG))).map rgAv) ++ [rgAv ⟨shf N x, keep⟩] = (((bd.take (i + 1)).map (fun t => (⟨shf N t, keep⟩ : RG))).map rgAv) := by rw [List.take_add_one, hx]; simp
  have hxo := hb x (List.mem_of_getElem? hx)
  have hsh := sh_shf N (by omega) x hxo.1
  have hcs := c_l3Shift (N : Int) x
  rw [hsh] at hcs
  have hgo : rgAv ⟨shf N x, keep⟩ = .agg ((shf N x).av.cells ++ [.int .i64 (keep : Int)]) := rgAv_of _
  simp -implicitDefEqProofs only [hlt', List.length_map, ev_at (av := Tm.av) eI_29 hx (Tm.av_width x), Tm.av_agg, Tm.av_width, Tm.av_store, Tm.av_junk, hw, evF, ↓evZ, implies_true, seval, tf_R2_58]
  refine (hcs _ hxo.1.small).to ?_
  generalize shf N x = y at *
  obtain ⟨yk, yn, ys, yt⟩ := y
  simp only [Tm.av_mk, rgAv_mk] at htk hgo ⊢
  simp -implicitDefEqProofs only [List.length_map, ev_at (av := Tm.av) eI_29 hx (Tm.av_width x), Tm.av_agg, Tm.av_width, Tm.av_store, Tm.av_junk, hw, evF, ↓evZ, implies_true, seval, tf_R2_58]
  refine acc_append eI_68 eB_68 eZ_68 rfl rfl (by intro e he; simp only [List.mem_cons, List.not_mem_nil, or_false] at he; subst he; exact ⟨rfl, rfl⟩) (by intro e he; simp only [List.mem_map] at he; obtain ⟨t, _, rfl⟩ := he; exact rgAv_width t) hinv (by simp only [hlen', List.length_cons, List.length_nil]; omega) (by simp only [hlen', List.length_cons, List.length_nil]; omega) (fun b' hb' => ?_)
  rw [htk] at hb' ⊢
  simp -implicitDefEqProofs only [List.length_map, ev_at (av := Tm.av) eI_29 hx (Tm.av_width x), Tm.av_agg, Tm.av_width, Tm.av_store, Tm.av_junk, hw, evF, ↓evZ, implies_true, seval, tf_R2_58]
  exact ⟨b', hb', zx7.mk (by simp -implicitDefEqProofs only [hw, List.length_map, ev_at (av := Tm.av) eI_29 hx (Tm.av_width x), Tm.av_agg, Tm.av_width, Tm.av_store, Tm.av_junk, hw, evF, ↓evZ, implies_true, seval, tf_R2_58])⟩
 rw [List.take_length] at hinv ⊢
 simp -implicitDefEqProofs only [List.length_map, hge, evF, ↓evZ, implies_true, seval, tf_R2_58]
 refine acc_append (xs := rest.map rgAv) eI_68 eB_68 eZ_68 rfl rfl (by intro e he; simp only [List.mem_map] at he; obtain ⟨t, _, rfl⟩ := he; exact ⟨rgAv_width t, rgAv_store t⟩) (by intro e he; simp only [List.mem_map] at he; obtain ⟨t, _, rfl⟩ := he; exact rgAv_width t) hinv (by simp only [List.length_map]; omega) (by simp only [List.length_map]; omega) (fun b' hb' => ?_)
 rw [← List.map_append] at hb' ⊢
 simp -implicitDefEqProofs only [List.length_map, hge, evF, ↓evZ, implies_true, seval, tf_R2_58]
 exact ⟨b', _, st, rfl, hb', by intro e he; simp only [List.mem_map] at he; obtain ⟨t, _, rfl⟩ := he; exact rgAv_junk t, ⟨5, by intro e he; simp only [List.mem_map] at he; obtain ⟨t, _, rfl⟩ := he; exact rgAv_width t⟩, by rw [accV_fin], Drops.refl _⟩
def forP (p : List Cl) (t : Tm) (i : Nat) : Bool := match p[i]? with
 | some c => hdOf c t
 | none => false
theorem forL_eq (p : List Cl) (t : Tm) : forL p t = (List.range p.length).filter (forP p t) := rfl
theorem forT_step (p : List Cl) (t : Tm) (i : Nat) : (List.range (i + 1)).filter (forP p t) = (List.range i).filter (forP p t) ++ (if forP p t i = true then [i] else []) := by
 rw [List.range_succ, List.filter_append]
 congr 1
 by_cases h : forP p t i = true <;> simp [h]
theorem forT_len (p : List Cl) (t : Tm) (i : Nat) : ((List.range i).filter (forP p t)).length ≤ i := by
 have := List.length_filter_le (forP p t) (List.range i)
 rw [List.length_range] at this
 exact this
theorem nv_widths (l : List Nat) : ∀ e ∈ l.map nv, e.width = 1 := by intro e h; simp only [List.mem_map] at h; obtain ⟨t, _, rfl⟩ := h; rfl
abbrev tf_R2_65 := zi tI_3 (zi zI_3 (zi underlying3 (zi tI_9 (zi zI_9 (zi underlying9 (zi tI_28 (zi zI_28 (zi eI_28 (zi eB_28 (zi eZ_28 (zi underlying28 (zi tI_29 (zi zI_29 (zi eI_29 (zi eB_29 (zi eZ_29 (zi underlying29 (zi tI_56 (zi zI_56 (zi fI_56_0 (zi fI_56_1 (zi fI_56_2 (zi fI_56_3 (zi bI_56 (zi tI_58 (zi zI_58 (zi fI_58_0 (zi fI_58_1 (zi bI_58 (zi tI_66 (zi zI_66 (zi eI_66 (zi eB_66 (zi eZ_66 underlying66))))))))))))))))))))))))))))))))))
theorem c_l4For (p : List Cl) (t : Tm) (hp : p.length ≤ 1048576) (st : zy7) : zq7 prog 65 [.slice (p.map clAv), t.av] st (fun r st' => r = .slice ((forL p t).map nv) ∧ st' = st) := by
 rw [forL_eq]
 refine zq7.done ?_
 obtain ⟨tk, tn, ts', tts⟩ := t
 simp only [Tm.av_mk]
 refine wF [1000000] 2 func65 ntmps65 rfl rfl ?_
 intro _
 simp -implicitDefEqProofs only [List.length_map, evF, ↓evZ, implies_true, seval, tf_R2_65]
 refine zq6 (σ := Unit) [1000000] [0, 3, 4] p 1 5 (fun i _ => ((List.range i).filter (forP p (.mk tk tn ts' tts))).map nv) (fun _ _ => True) (fun i _ => [(6, .int .i64 i)]) (fun _ _ => st) (fun i _ _ e he => by simp only [List.mem_map] at he; obtain ⟨t, _, rfl⟩ := he; exact ⟨rfl, rfl⟩) (by decide +kernel) ⟨(), 0, trivial, fun h => absurd rfl h, zx7.mk (by simp -implicitDefEqProofs only [accV_nil, accS_nil, List.range_zero, List.filter_nil, List.map_nil, List.length_map, evF, ↓evZ, implies_true, seval, tf_R2_65])⟩ (fun i x s b hx hlt hlt' hdr hinv hb => ?_) (fun s b hge hinv => ?_)
 case refine_2 =>
  simp -implicitDefEqProofs only [hge, fin_agg, fin_tup, fin_int, fin_bool, fin_str, fin_slice, fin_fslice, fin_pptr, fin_ptr, fin_func, fin_map, fin_undef, fin_accV, tm_fin, List.take_length, List.length_map, evF, ↓evZ, implies_true, seval, tf_R2_65]
  exact ⟨rfl, Drops.refl _⟩
 have hw := wrap64 (n := (i : Int) + 1) (by omega) (by omega)
 have hst := forT_step p (.mk tk tn ts' tts) i
 have hln := forT_len p (.mk tk tn ts' tts) i
 have hat := ev_at (av := clAv) (P := prog) eI_28 hx (clAv_width x)
 obtain ⟨⟨k, n, s', ts⟩, bd⟩ := x
 rw [clAv_mk] at hat
 have hP : forP p (.mk tk tn ts' tts) i = (decide (s' = ts') && decide ((ts.length : Int) = (tts.length : Int))) := by unfold forP; rw [hx]; rfl
 rw [hP] at hst
 simp -implicitDefEqProofs only [hlt', List.length_map, hat, hw, evF, ↓evZ, implies_true, seval, tf_R2_65]
 refine wP [(0, 1), (1, 1), (2, 1), (3, 1), (4, 1), (6, 1), (5, 2), (7, 2), (8, 1), (9, 1), (10, 1), (11, 1), (12, 1), (13, 1), (14, 1), (17, 1), (15, 2), (16, 1), (18, 2), (19, 1), (20, 1), (21, 1)] [0, 1, 2, 3, 4, 6, 5, 7, 8, 9, 10, 11, 12, 13, 14, 17, 15, 16, 18, 19, 20, 21] mixed ?_
 simp -implicitDefEqProofs only [List.length_map, hat, hw, evF, ↓evZ, implies_true, seval, tf_R2_65]
 refine zx4 (fun h => ?_) (fun h => ?_)
 case refine_2 =>
  have h' : (decide (s' = ts') && decide ((ts.length : Int) = (tts.length : Int))) = false := by simp at h; simp [h]
  rw [h', if_neg (by simp), List.append_nil] at hst
  rw [← hst] at hb ⊢
  simp -implicitDefEqProofs only [h, List.length_map, hat, hw, evF, ↓evZ, implies_true, seval, tf_R2_65]
  exact ⟨(), b, hb, zx7.mk (by simp -implicitDefEqProofs only [hw, List.length_map, hat, hw, evF, ↓evZ, implies_true, seval, tf_R2_65])⟩
 have h1 : decide (s' = ts') = true := by simpa using h
 rw [h1, Bool.true_and] at hst
 simp -implicitDefEqProofs only [h, List.length_map, hat, hw, evF, ↓evZ, implies_true, seval, tf_R2_65]
 refine zq4 (fun h2 => ?_) (fun h2 => ?_)
 · rw [if_pos h2] at hst
   simp -implicitDefEqProofs only [List.length_map, hat, hw, evF, ↓evZ, implies_true, seval, tf_R2_65]
   refine acc_append eI_66 eB_66 eZ_66 rfl rfl (by intro e he; simp only [List.mem_cons, List.not_mem_nil, or_false] at he; subst he; exact ⟨rfl, rfl⟩) (nv_widths _) hb (by simp only [List.length_map, List.length_cons, List.length_nil]; omega) (by simp only [List.length_map, List.length_cons, List.length_nil]; omega) (fun b' hb' => ?_)
   rw [show ∀ l : List Nat, l.map nv ++ [AV.int .i64 (i : Int)] = (l ++ [i]).map nv from fun l => by simp [nv], ← hst] at hb' ⊢
   simp -implicitDefEqProofs only [List.length_map, hat, hw, evF, ↓evZ, implies_true, seval, tf_R2_65]
   exact ⟨(), b', hb', zx7.mk (by simp -implicitDefEqProofs only [hw, List.length_map, hat, hw, evF, ↓evZ, implies_true, seval, tf_R2_65])⟩
 · rw [if_neg (by simp [h2]), List.append_nil] at hst
   rw [← hst] at hb ⊢
   simp -implicitDefEqProofs only [List.length_map, hat, hw, evF, ↓evZ, implies_true, seval, tf_R2_65]
   exact ⟨(), b, hb, zx7.mk (by simp -implicitDefEqProofs only [hw, List.length_map, hat, hw, evF, ↓evZ, implies_true, seval, tf_R2_65])⟩
theorem idxI_at {n : Int} : ∀ {l : List Int}, l.Nodup → ∀ {i : Nat}, l[i]? = some n → ∀ j : Int, idxI n l j = j + i
 | [], _, i, h, j => by simp at h
 | x :: l, hd, 0, h, j => by
  simp only [List.getElem?_cons_zero, Option.some.injEq] at h
  subst h
  simp [idxI]
 | x :: l, hd, i + 1, h, j => by
  rw [List.nodup_cons] at hd
  rw [List.getElem?_cons_succ] at h
  have hm := List.mem_of_getElem? h
  simp only [idxI]
  rw [if_neg (fun e : n = x => hd.1 (e ▸ hm)), idxI_at hd.2 h (j + 1)]
  omega
abbrev tf_R2_82 := zi tI_3 (zi zI_3 (zi underlying3 (zi tI_9 (zi zI_9 (zi underlying9 (zi tI_29 (zi zI_29 (zi eI_29 (zi eB_29 (zi eZ_29 (zi underlying29 (zi tI_56 (zi zI_56 (zi fI_56_0 (zi fI_56_1 (zi fI_56_2 (zi fI_56_3 (zi bI_56 (zi tI_66 (zi zI_66 (zi eI_66 (zi eB_66 (zi eZ_66 underlying66)))))))))))))))))))))))
theorem c_l1Rename (vars : List Int) (hnd : vars.Nodup) (hvl : vars.length ≤ 1048576) : ∀ (t : Tm) (st : zy7), t.small = true → t.cv = true → (∀ v ∈ t.vl, v ∈ vars) → zq7 prog 82 [t.av, .slice (vars.map iv)] st (fun r st' => r = (t.mapv fun v => vr (idxI v vars 0)).av ∧ st' = st)
 | .mk k n s ts, st, hsm, hcv, hin => by
  obtain ⟨hlen, hsms⟩ := Tm.small_mk hsm
  obtain ⟨hc1, hcs⟩ := Tm.cv_mk.1 hcv
  have IH := fun (x : Tm) (hx : x ∈ ts) st => c_l1Rename vars hnd hvl x st (hsms x hx) (hcs x hx) (fun v hv => by
   by_cases hk : k = 1
   · rw [(hc1 hk).2] at hx; cases hx
   · exact hin v ((Tm.vl_mk hk).2 ⟨x, hx, hv⟩))
  generalize hg : (Tm.mapv fun v => vr (idxI v vars 0)) = g at IH
  refine zq7.drop2 (zq7.fin ?_)
  simp only [Tm.av_mk]
  refine wF [1000000, 5] 2 func82 ntmps82 rfl rfl ?_
  intro _
  simp -implicitDefEqProofs only [zy4, evF, ↓evZ, implies_true, seval, tf_R2_82]
  intro b4 h4 c hc
  have hne : c ≠ b4 := by rintro rfl; rw [zy7.upd_same] at hc; cases hc
  have hnc : st c = none := by rw [zy7.upd_ne st _ hne] at hc; exact hc
  have hidx : ∀ i : Nat, vars[i]? = some n → idxI n vars 0 = (i : Int) := fun i hi => by
   have := idxI_at hnd hi 0
   omega
  generalize hW : st.upd b4 (.cells [AV.int .i64 0, AV.int .i64 0, AV.str ⟨#[]⟩, AV.fslice []]) = W
  have hWc : W c = none := by rw [← hW]; exact hc
  have hW4 : W b4 = some (.cells [AV.int .i64 0, AV.int .i64 0, AV.str ⟨#[]⟩, AV.fslice []]) := by rw [← hW]; exact zy7.upd_same _ _ _
  have hS : W b4 ≠ none := by rw [hW4]; simp
  have hb4c : b4 ≠ c := Ne.symm hne
  refine zw5 (σ := Nat × Int) [1000000, 5] [1, 2, 4, 5] (fun p => p.1 ≤ vars.length ∧ (k ≠ 1 → p.2 = n) ∧ (k = 1 → (n ∈ vars.take p.1 → p.2 = idxI n vars 0))) (fun p => [(6, .int .i64 p.1)]) (fun p => W.upd c (.cells [.int .i64 k, .int .i64 p.2, .str s, .fslice []])) (fun p => vars.length - p.1) (by decide +kernel) ⟨(0, n), ⟨Nat.zero_le _, fun _ => rfl, fun _ h => by simp at h⟩, zx7.mk (by simp -implicitDefEqProofs only [zy4, evF, ↓evZ, implies_true, seval, tf_R2_82])⟩ ?_
  rintro ⟨i, n'⟩ ⟨h1, h2, h3⟩
  simp only at h1 h2 h3
  have rest : (k = 1 → n' = idxI n vars 0) → True := fun _ => trivial
  simp -implicitDefEqProofs only [zy4, hne, hb4c, List.length_map, evF, ↓evZ, implies_true, seval, tf_R2_82]
  have fin : (k = 1 → n' = idxI n vars 0) → g (.mk k n s ts) = .mk k n' s (ts.map g) := fun h4 => by
   rw [← hg]
   by_cases hk : k = 1
   · obtain ⟨rfl, rfl⟩ := hc1 hk
     rw [Tm.mapv_var _ hk, h4 hk, hk]; rfl
   · rw [Tm.mapv_mk _ hk, h2 hk]
  refine zx4 (fun h => ?_) (fun h => ?_)
  case refine_2 =>
   have h4 : (k = 1 → n' = idxI n vars 0) := fun hk => h3 hk (by
    have : i = vars.length := by simp at h; omega
    rw [this, List.take_length]
    exact hin n (by rw [Tm.vl_var hk]; simp))
   simp -implicitDefEqProofs only [h, zy4, hne, hb4c, List.length_map, evF, ↓evZ, implies_true, seval, tf_R2_82]
   refine zy5 (σ := Nat) [1000000, 5] [1, 2, 4, 5] ts (fun i b => (((ts.take i).map g).map Tm.av ≠ [] → (zy7.upd W c (.cells ([AV.int .i64 k, AV.int .i64 (n'), AV.str s] ++ [accV 4 b (((ts.take i).map g).map Tm.av)]))) b = none)) (fun i b => [(7, .int .i64 i)]) (fun i b => kidS W c b [AV.int .i64 k, AV.int .i64 (n'), AV.str s] (((ts.take i).map g).map Tm.av)) (by decide +kernel)
    ⟨0, fun h => absurd rfl h, zx7.mk (by simp -implicitDefEqProofs only [List.length_map, zy4, hne, hb4c, List.length_map, evF, ↓evZ, implies_true, seval, tf_R2_82])⟩ (fun i x b hx hlt hlt' hdr hinv => ?_) (fun b hge hinv => ?_)
   case refine_1 =>
    have hw := wrap64 (n := (i : Int) + 1) (by omega) (by omega)
    have hlen' : (((ts.take i).map g).map Tm.av).length = i := by simp only [List.length_map, List.length_take]; omega
    have htk : (ts.take (i + 1)).map g = (ts.take i).map g ++ [g x] := by rw [List.take_add_one, hx]; simp
    have hbo := kidS_c hinv
    simp -implicitDefEqProofs only [List.length_map, hlt', zy4, hne, hb4c, List.length_map, evF, ↓evZ, implies_true, seval, tf_R2_82]
    refine wP [(0, 1), (2, 1), (4, 1), (7, 1), (1, 2), (3, 2), (5, 1), (6, 2), (8, 2), (9, 1), (10, 0), (11, 1), (12, 0)] [0, 2, 4, 7, 1, 3, 5, 6, 8, 9, 11] mixed ?_
    simp -implicitDefEqProofs only [ev_at (av := Tm.av) eI_29 hx (Tm.av_width x), Tm.av_agg, Tm.av_width, hbo, accV_agg, accV_width, zy4, hne, hb4c, List.length_map, evF, ↓evZ, implies_true, seval, tf_R2_82]
    refine zw4 (IH x (List.mem_of_getElem? hx) _) ?_
    simp -implicitDefEqProofs only [Tm.av_agg, Tm.av_width, Tm.av_junk, hbo, accV_agg, accV_width, zy4, hne, hb4c, List.length_map, evF, ↓evZ, implies_true, seval, tf_R2_82]
    refine acc_append eI_29 eB_29 eZ_29 rfl rfl (by intro e he; simp only [List.mem_cons, List.not_mem_nil, or_false] at he; subst he; exact ⟨Tm.av_width _, Tm.av_store _⟩) (tm_widths _) hinv (by simp only [hlen', List.length_cons, List.length_nil]; omega) (by simp only [hlen', List.length_cons, List.length_nil]; omega) (fun b' hb' => ?_)
    rw [show (((ts.take i).map g).map Tm.av) ++ [(g x).av] = ((ts.take (i + 1)).map g).map Tm.av by rw [htk]; simp] at hb' ⊢
    obtain ⟨g1, g2, g3⟩ := kidS_set hb'
    simp only [List.cons_append, List.nil_append] at g1 g3
    simp -implicitDefEqProofs only [g3, accV_cells, accV_store, zy4, Nat.le_refl, g1, hw, zy4, hne, hb4c, List.length_map, evF, ↓evZ, implies_true, seval, tf_R2_82]
    exact ⟨b', g2, zx7.mk (by simp -implicitDefEqProofs only [zy4, hne, hb4c, List.length_map, evF, ↓evZ, implies_true, seval, tf_R2_82])⟩
   have hbo := kidS_c hinv
   rw [List.take_length] at hinv hbo ⊢
   simp -implicitDefEqProofs only [List.length_map, hge, zy4, hne, hb4c, List.length_map, evF, ↓evZ, implies_true, seval, tf_R2_82]
   simp -implicitDefEqProofs only [hbo, zy4, hne, hb4c, List.length_map, evF, ↓evZ, implies_true, seval, tf_R2_82]
   have g1 := kidS_ne hinv hS hb4c
   rw [hW4] at g1
   simp -implicitDefEqProofs only [g1, accV_store, accV_cells, zy4, Nat.le_refl, zy4, hne, hb4c, List.length_map, evF, ↓evZ, implies_true, seval, tf_R2_82]
   obtain ⟨g2, g3⟩ := kidS_upd (o := .cells [AV.int .i64 k, AV.int .i64 (n'), AV.str s, accV 4 b ((ts.map g).map Tm.av)]) hinv hS hb4c
   refine ⟨b, _, _, g2, g3, tm_junk _, ⟨4, tm_widths _⟩, ?_, fun x => ?_⟩
   · simp only [fin_agg, List.map_cons, List.map_nil, fin_int, fin_str, accV_fin, ← Tm.av_mk]
     rw [fin h4]
   · subst hW
     by_cases e3 : x = b4 <;> by_cases e4 : x = c <;> simp_all [zy7.upd]
  have hlt : i < vars.length := by simpa using h
  simp -implicitDefEqProofs only [h, zy4, hne, hb4c, List.length_map, evF, ↓evZ, implies_true, seval, tf_R2_82]
  refine zq4 (fun h5 => ?_) (fun h5 => ?_)
  case refine_2 =>
   have h5' : k ≠ 1 := by simpa using h5
   have h4 : (k = 1 → n' = idxI n vars 0) := fun hk => absurd hk h5'
   simp -implicitDefEqProofs only [zy4, hne, hb4c, List.length_map, evF, ↓evZ, implies_true, seval, tf_R2_82]
   refine zy5 (σ := Nat) [1000000, 5] [1, 2, 4, 5] ts (fun i b => (((ts.take i).map g).map Tm.av ≠ [] → (zy7.upd W c (.cells ([AV.int .i64 k, AV.int .i64 (n'), AV.str s] ++ [accV 4 b (((ts.take i).map g).map Tm.av)]))) b = none)) (fun i b => [(7, .int .i64 i)]) (fun i b => kidS W c b [AV.int .i64 k, AV.int .i64 (n'), AV.str s] (((ts.take i).map g).map Tm.av)) (by decide +kernel)
    ⟨0, fun h => absurd rfl h, zx7.mk (by simp -implicitDefEqProofs only [List.length_map, zy4, hne, hb4c, List.length_map, evF, ↓evZ, implies_true, seval, tf_R2_82])⟩ (fun i x b hx hlt hlt' hdr hinv => ?_) (fun b hge hinv => ?_)
   case refine_1 =>
    have hw := wrap64 (n := (i : Int) + 1) (by omega) (by omega)
    have hlen' : (((ts.take i).map g).map Tm.av).length = i := by simp only [List.length_map, List.length_take]; omega
    have htk : (ts.take (i + 1)).map g = (ts.take i).map g ++ [g x] := by rw [List.take_add_one, hx]; simp
    have hbo := kidS_c hinv
    simp -implicitDefEqProofs only [List.length_map, hlt', zy4, hne, hb4c, List.length_map, evF, ↓evZ, implies_true, seval, tf_R2_82]
    refine wP [(0, 1), (2, 1), (4, 1), (7, 1), (1, 2), (3, 2), (5, 1), (6, 2), (8, 2), (9, 1), (10, 0), (11, 1), (12, 0)] [0, 2, 4, 7, 1, 3, 5, 6, 8, 9, 11] mixed ?_
    simp -implicitDefEqProofs only [ev_at (av := Tm.av) eI_29 hx (Tm.av_width x), Tm.av_agg, Tm.av_width, hbo, accV_agg, accV_width, zy4, hne, hb4c, List.length_map, evF, ↓evZ, implies_true, seval, tf_R2_82]
    refine zw4 (IH x (List.mem_of_getElem? hx) _) ?_
    simp -implicitDefEqProofs only [Tm.av_agg, Tm.av_width, Tm.av_junk, hbo, accV_agg, accV_width, zy4, hne, hb4c, List.length_map, evF, ↓evZ, implies_true, seval, tf_R2_82]
    refine acc_append eI_29 eB_29 eZ_29 rfl rfl (by intro e he; simp only [List.mem_cons, List.not_mem_nil, or_false] at he; subst he; exact ⟨Tm.av_width _, Tm.av_store _⟩) (tm_widths _) hinv (by simp only [hlen', List.length_cons, List.length_nil]; omega) (by simp only [hlen', List.length_cons, List.length_nil]; omega) (fun b' hb' => ?_)
    rw [show (((ts.take i).map g).map Tm.av) ++ [(g x).av] = ((ts.take (i + 1)).map g).map Tm.av by rw [htk]; simp] at hb' ⊢
    obtain ⟨g1, g2, g3⟩ := kidS_set hb'
    simp only [List.cons_append, List.nil_append] at g1 g3
    simp -implicitDefEqProofs only [g3, accV_cells, accV_store, zy4, Nat.le_refl, g1, hw, zy4, hne, hb4c, List.length_map, evF, ↓evZ, implies_true, seval, tf_R2_82]
    exact ⟨b', g2, zx7.mk (by simp -implicitDefEqProofs only [zy4, hne, hb4c, List.length_map, evF, ↓evZ, implies_true, seval, tf_R2_82])⟩
   have hbo := kidS_c hinv
   rw [List.take_length] at hinv hbo ⊢
   simp -implicitDefEqProofs only [List.length_map, hge, zy4, hne, hb4c, List.length_map, evF, ↓evZ, implies_true, seval, tf_R2_82]
   simp -implicitDefEqProofs only [hbo, zy4, hne, hb4c, List.length_map, evF, ↓evZ, implies_true, seval, tf_R2_82]
   have g1 := kidS_ne hinv hS hb4c
   rw [hW4] at g1
   simp -implicitDefEqProofs only [g1, accV_store, accV_cells, zy4, Nat.le_refl, zy4, hne, hb4c, List.length_map, evF, ↓evZ, implies_true, seval, tf_R2_82]
   obtain ⟨g2, g3⟩ := kidS_upd (o := .cells [AV.int .i64 k, AV.int .i64 (n'), AV.str s, accV 4 b ((ts.map g).map Tm.av)]) hinv hS hb4c
   refine ⟨b, _, _, g2, g3, tm_junk _, ⟨4, tm_widths _⟩, ?_, fun x => ?_⟩
   · simp only [fin_agg, List.map_cons, List.map_nil, fin_int, fin_str, accV_fin, ← Tm.av_mk]
     rw [fin h4]
   · subst hW
     by_cases e3 : x = b4 <;> by_cases e4 : x = c <;> simp_all [zy7.upd]
  have hk : k = 1 := by simpa using h5
  obtain ⟨x, hx⟩ : ∃ x, vars[i]? = some x := ⟨_, List.getElem?_eq_getElem hlt⟩
  have hat : aIndexAddr prog 66 (.slice (vars.map iv)) (.int .i64 (i : Int)) = some (.pptr (.int .i64 x)) := ev_at (av := iv) eI_66 hx rfl
  have hw := wrap64 (n := (i : Int) + 1) (by omega) (by omega)
  have htk : vars.take (i + 1) = vars.take i ++ [x] := by rw [List.take_add_one, hx]; rfl
  simp -implicitDefEqProofs only [zy4, hne, hb4c, List.length_map, hat, hw, evF, ↓evZ, implies_true, seval, tf_R2_82]
  refine wP [(0, 1), (1, 1), (2, 1), (4, 1), (3, 2), (5, 2), (6, 1)] [0, 1, 2, 4, 3, 5, 6] mixed ?_
  simp -implicitDefEqProofs only [zy4, hne, hb4c, List.length_map, hat, hw, evF, ↓evZ, implies_true, seval, tf_R2_82]
  refine zq4 (fun h6 => ?_) (fun h6 => ?_)
  · have h6' : x = n := by simpa using h6
    subst h6'
    simp -implicitDefEqProofs only [zy4, hne, hb4c, List.length_map, hat, hw, evF, ↓evZ, implies_true, seval, tf_R2_82]
    refine ⟨(i + 1, (i : Int)), by simp only; omega, ⟨hlt, fun h => absurd hk h, fun _ _ => (hidx i hx).symm⟩, zx7.mk (by simp -implicitDefEqProofs only [zy4, hne, hb4c, List.length_map, hat, hw, evF, ↓evZ, implies_true, seval, tf_R2_82])⟩
  · have h6' : x ≠ n := by simpa using h6
    simp -implicitDefEqProofs only [zy4, hne, hb4c, List.length_map, hat, hw, evF, ↓evZ, implies_true, seval, tf_R2_82]
    refine ⟨(i + 1, n'), by simp only; omega, ⟨hlt, h2, fun hk hm => h3 hk ?_⟩, zx7.mk (by simp -implicitDefEqProofs only [zy4, hne, hb4c, List.length_map, hat, hw, evF, ↓evZ, implies_true, seval, tf_R2_82])⟩
    rw [htk, List.mem_append] at hm
    rcases hm with hm | hm
    · exact hm
    · simp only [List.mem_cons, List.not_mem_nil, or_false] at hm
      exact absurd hm.symm h6'
termination_by t => SizeOf.sizeOf t
decreasing_by have := List.sizeOf_lt_of_mem hx; simp only [Tm.mk.sizeOf_spec]; omega
theorem tmsVars_nodup : ∀ (ts : List Tm) (l : List Int), (∀ t ∈ ts, t.wf = true) → l.Nodup → (tmsVars ts l).Nodup
 | [], l, _, h => h
 | t :: ts, l, hw, h => tmsVars_nodup ts _ (fun x hx => hw x (by simp [hx])) ((vars_spec t (hw t (by simp)) l).2.1 h)
theorem nodes_120 : ∀ l : List Tm, (∀ t ∈ l, t.nodes ≤ 120) → sumL Tm.nodes l ≤ l.length * 120
 | [], _ => by simp [sumL]
 | x :: l, h => by
  simp only [sumL, List.length_cons]
  have := nodes_120 l fun y hy => h y (by simp [hy])
  have := h x (by simp)
  omega
abbrev tf_R3_61 := zi tI_3 (zi zI_3 (zi underlying3 (zi tI_29 (zi zI_29 (zi eI_29 (zi eB_29 (zi eZ_29 (zi underlying29 (zi tI_56 (zi zI_56 (zi fI_56_0 (zi fI_56_1 (zi fI_56_2 (zi fI_56_3 (zi bI_56 (zi tI_66 (zi zI_66 (zi eI_66 (zi eB_66 (zi eZ_66 underlying66))))))))))))))))))))
theorem c_l1Renumber {N : Int} (l : List Tm) (hok : ∀ t ∈ l, OkX N t) (hl : l.length ≤ 1000) (st : zy7) : zq7 prog 61 [.slice (l.map Tm.av)] st (fun r st' => r = .slice ((renumL l).map Tm.av) ∧ st' = st) := by
 have hnd := nodes_120 l fun t ht => (hok t ht).2
 have hdup := tmsVars_nodup l [] (fun t ht => Tm.cv_wf t (hok t ht).1.2.1) List.nodup_nil
 have hmem := fun v => tmsVars_mem (v := v) l [] fun t ht => (hok t ht).1.2.1
 have hvl := tmsVars_len l []
 simp only [List.length_nil] at hvl
 refine zq7.done ?_
 refine wF [1000000] 1 func61 ntmps61 rfl rfl ?_
 intro _
 simp -implicitDefEqProofs only [List.length_map, evF, ↓evZ, implies_true, seval, tf_R3_61]
 refine zq6 (σ := Unit) [1000000] [0, 2] l 1 3 (fun i _ => (tmsVars (l.take i) []).map iv) (fun _ _ => True) (fun i _ => [(4, .int .i64 i)]) (fun _ _ => st) (fun i _ _ e he => by simp only [List.mem_map] at he; obtain ⟨t, _, rfl⟩ := he; exact ⟨rfl, rfl⟩) (by decide +kernel) ⟨(), 0, trivial, fun h => absurd rfl h, zx7.mk (by simp -implicitDefEqProofs only [accV_nil, accS_nil, List.take_zero, tmsVars, List.map_nil, List.length_map, evF, ↓evZ, implies_true, seval, tf_R3_61])⟩ (fun i x s b hx hlt hlt' hdr hinv hb => ?_) (fun s b hge hinv => ?_)
 case refine_1 =>
  have hw := wrap64 (n := (i : Int) + 1) (by omega) (by omega)
  have hat := ev_at (av := Tm.av) eI_29 hx (Tm.av_width x)
  have hst := sumL_take Tm.nodes hx
  have hvl := tmsVars_len (l.take i) []
  simp only [List.length_nil, Nat.zero_add] at hvl
  have htk : x.vars (tmsVars (l.take i) []) = tmsVars (l.take (i + 1)) [] := by
   rw [List.take_add_one, hx, tmsVars_app]
   rfl
  simp -implicitDefEqProofs only [hlt', List.length_map, hat, Tm.av_agg, Tm.av_width, Tm.av_store, Tm.av_junk, evF, ↓evZ, implies_true, seval, tf_R3_61]
  refine (c_l1Vars x (tmsVars (l.take i) []) b st (Tm.cv_wf x (hok x (List.mem_of_getElem? hx)).1.2.1) hb (by omega)).mono ?_
  rintro _ _ ⟨b', rfl, rfl, hb'⟩
  rw [htk] at hb' ⊢
  simp -implicitDefEqProofs only [List.length_map, hat, Tm.av_agg, Tm.av_width, Tm.av_store, Tm.av_junk, evF, ↓evZ, implies_true, seval, tf_R3_61]
  exact ⟨(), b', hb', zx7.mk (by simp -implicitDefEqProofs only [hw, List.length_map, hat, Tm.av_agg, Tm.av_width, Tm.av_store, Tm.av_junk, evF, ↓evZ, implies_true, seval, tf_R3_61])⟩
 simp -implicitDefEqProofs only [hge, fin_agg, fin_tup, fin_int, fin_bool, fin_str, fin_slice, fin_fslice, fin_pptr, fin_ptr, fin_func, fin_map, fin_undef, fin_accV, tm_fin, List.take_length, List.length_map, evF, ↓evZ, implies_true, seval, tf_R3_61]
 have hR : renumL l = l.map fun t => t.mapv fun v => vr (idxI v (tmsVars l []) 0) := rfl
 rw [hR]
 generalize tmsVars l [] = vars at *
 refine zq6 (σ := Unit) [1000000] [0, 2, 3] l 4 5 (fun i _ => ((l.take i).map fun t => t.mapv fun v => vr (idxI v vars 0)).map Tm.av) (fun _ _ => True) (fun i _ => [(6, .int .i64 i)]) (fun _ _ => st) (fun i _ _ e he => by simp only [List.mem_map] at he; obtain ⟨t, _, rfl⟩ := he; exact ⟨Tm.av_junk _, Tm.av_width _⟩) (by decide +kernel) ⟨(), 0, trivial, fun h => absurd rfl h, zx7.mk (by simp -implicitDefEqProofs only [accV_nil, accS_nil, List.take_zero, List.map_nil, List.length_map, evF, ↓evZ, implies_true, seval, tf_R3_61])⟩ (fun i x s b hx hlt hlt' hdr hinv hb => ?_) (fun s b hge hinv => ?_)
 case refine_2 =>
  simp -implicitDefEqProofs only [hge, fin_agg, fin_tup, fin_int, fin_bool, fin_str, fin_slice, fin_fslice, fin_pptr, fin_ptr, fin_func, fin_map, fin_undef, fin_accV, tm_fin, List.take_length, List.length_map, evF, ↓evZ, implies_true, seval, tf_R3_61]
  exact ⟨rfl, Drops.refl _⟩
 have hw := wrap64 (n := (i : Int) + 1) (by omega) (by omega)
 have hat := ev_at (av := Tm.av) eI_29 hx (Tm.av_width x)
 have hxm := List.mem_of_getElem? hx
 have hlen' : (((l.take i).map fun t => t.mapv fun v => vr (idxI v vars 0)).map Tm.av).length = i := by simp only [List.length_map, List.length_take]; omega
 simp -implicitDefEqProofs only [hlt', List.length_map, hat, Tm.av_agg, Tm.av_width, Tm.av_store, Tm.av_junk, evF, ↓evZ, implies_true, seval, tf_R3_61]
 refine (c_l1Rename vars hdup (by omega) x _ (hok x hxm).1.small (hok x hxm).1.2.1 (fun v hv => (hmem v).2 (.inr ⟨x, hxm, hv⟩))).to ?_
 simp -implicitDefEqProofs only [List.length_map, hat, Tm.av_agg, Tm.av_width, Tm.av_store, Tm.av_junk, evF, ↓evZ, implies_true, seval, tf_R3_61]
 refine acc_append eI_29 eB_29 eZ_29 rfl rfl (by intro e he; simp only [List.mem_cons, List.not_mem_nil, or_false] at he; subst he; exact ⟨Tm.av_width _, Tm.av_store _⟩) (tm_widths _) hb (by simp only [hlen', List.length_cons, List.length_nil]; omega) (by simp only [hlen', List.length_cons, List.length_nil]; omega) (fun b' hb' => ?_)
 rw [show (((l.take i).map fun t => t.mapv fun v => vr (idxI v vars 0)).map Tm.av) ++ [(x.mapv fun v => vr (idxI v vars 0)).av] = ((l.take (i + 1)).map fun t => t.mapv fun v => vr (idxI v vars 0)).map Tm.av by rw [List.take_add_one, hx]; simp] at hb' ⊢
 simp -implicitDefEqProofs only [List.length_map, hat, Tm.av_agg, Tm.av_width, Tm.av_store, Tm.av_junk, evF, ↓evZ, implies_true, seval, tf_R3_61]
 exact ⟨(), b', hb', zx7.mk (by simp -implicitDefEqProofs only [hw, List.length_map, hat, Tm.av_agg, Tm.av_width, Tm.av_store, Tm.av_junk, evF, ↓evZ, implies_true, seval, tf_R3_61])⟩
abbrev tf_R3_62 := zi tI_3 (zi zI_3 (zi underlying3 (zi tI_4 (zi zI_4 (zi underlying4 (zi tI_29 (zi zI_29 (zi eI_29 (zi eB_29 (zi eZ_29 (zi underlying29 (zi tI_56 (zi zI_56 (zi fI_56_0 (zi fI_56_1 (zi fI_56_2 (zi fI_56_3 bI_56)))))))))))))))))
theorem c_l1All (l : List Tm) (st : zy7) : zq7 prog 62 [.slice (l.map Tm.av)] st (fun r st' => r = .bool (l.all Tm.valid) ∧ st' = st) := by
 refine wF [1000000] 1 func62 ntmps62 rfl rfl ?_
 simp only [fitsL, AV.fits, and_true, List.length_map]
 intro ⟨hl, _⟩
 simp -implicitDefEqProofs only [List.length_map, evF, ↓evZ, implies_true, seval, tf_R3_62]
 refine zy5 (σ := Unit) [1000000] [0] l (fun i _ => ((l.drop i).all Tm.valid) = (l.all Tm.valid)) (fun i _ => [(3, .int .i64 i)]) (fun _ _ => st) (by decide +kernel) ⟨(), rfl, zx7.mk (by simp -implicitDefEqProofs only [List.length_map, evF, ↓evZ, implies_true, seval, tf_R3_62])⟩ (fun i x _ hx hlt hlt' hdr hinv => ?_) (fun _ hge hinv => ?_)
 case refine_2 =>
  simp -implicitDefEqProofs only [hge, List.length_map, evF, ↓evZ, implies_true, seval, tf_R3_62]
  rw [← hinv, List.drop_length]
  rfl
 have hw := wrap64 (n := (i : Int) + 1) (by omega) (by omega)
 rw [hdr, List.all_cons] at hinv
 simp -implicitDefEqProofs only [hlt', List.length_map, ev_at (av := Tm.av) eI_29 hx (Tm.av_width x), Tm.av_agg, Tm.av_width, evF, ↓evZ, implies_true, seval, tf_R3_62]
 refine (c_spec_TermValid x _).to ?_
 simp -implicitDefEqProofs only [List.length_map, ev_at (av := Tm.av) eI_29 hx (Tm.av_width x), Tm.av_agg, Tm.av_width, evF, ↓evZ, implies_true, seval, tf_R3_62]
 refine zq4 (fun h2 => ?_) (fun h2 => ?_)
 · simp -implicitDefEqProofs only [List.length_map, ev_at (av := Tm.av) eI_29 hx (Tm.av_width x), Tm.av_agg, Tm.av_width, evF, ↓evZ, implies_true, seval, tf_R3_62]
   simp only [Bool.not_eq_true'] at h2
   rw [← hinv, h2]
   rfl
 · simp only [Bool.not_eq_false'] at h2
   rw [h2, Bool.true_and] at hinv
   simp -implicitDefEqProofs only [List.length_map, ev_at (av := Tm.av) eI_29 hx (Tm.av_width x), Tm.av_agg, Tm.av_width, evF, ↓evZ, implies_true, seval, tf_R3_62]
   exact ⟨(), hinv, zx7.mk (by simp -implicitDefEqProofs only [hw, List.length_map, ev_at (av := Tm.av) eI_29 hx (Tm.av_width x), Tm.av_agg, Tm.av_width, evF, ↓evZ, implies_true, seval, tf_R3_62])⟩
theorem idxI_bound (v : Int) : ∀ (l : List Int) (i : Int), v ∈ l → i ≤ idxI v l i ∧ idxI v l i < i + l.length
 | [], i, h => by cases h
 | x :: l, i, h => by
  simp only [idxI, List.length_cons]
  split
  · omega
  · rename_i e
    have h' : v ∈ l := by
     rcases List.mem_cons.1 h with h | h
     · exact absurd h e
     · exact h
    have := idxI_bound v l (i + 1) h'
    omega
theorem renumL_valid {N : Int} {l : List Tm} (hok : ∀ t ∈ l, OkX N t) (hf : l.all fitT = true) : (renumL l).all Tm.valid = decide ((tmsVars l []).length ≤ 26) := by
 have hmem := fun v => tmsVars_mem (v := v) l [] fun t ht => (hok t ht).1.2.1
 have hdup := tmsVars_nodup l [] (fun t ht => Tm.cv_wf t (hok t ht).1.2.1) List.nodup_nil
 have hro : ∀ t ∈ l, OkV (tmsVars l []).length (t.mapv fun v => vr (idxI v (tmsVars l []) 0)) := fun t ht =>
  (hok t ht).1.mapv fun v hv => by
   have := idxI_bound v (tmsVars l []) 0 ((hmem v).2 (.inr ⟨t, ht, hv⟩))
   exact okV_vr (by omega) (by omega)
 have hfit : ∀ t ∈ l, fitT (t.mapv fun v => vr (idxI v (tmsVars l []) 0)) = true := fun t ht => by
  have := List.all_eq_true.1 hf t ht
  unfold fitT at this ⊢
  rw [show (t.mapv fun v => vr (idxI v (tmsVars l []) 0)) = ren (fun v => idxI v (tmsVars l []) 0) t from rfl, ren_flat _ (hok t ht).1.2.1, ren_nodes _ (hok t ht).1.2.1]
  exact this
 rw [Bool.eq_iff_iff, List.all_eq_true, decide_eq_true_eq]
 constructor
 · intro h
   refine Classical.byContradiction fun hn => ?_
   obtain ⟨w, hw⟩ : ∃ w, (tmsVars l [])[26]? = some w := ⟨_, List.getElem?_eq_getElem (by omega)⟩
   rcases (hmem w).1 (List.mem_of_getElem? hw) with h1 | ⟨t, ht, hv⟩
   · cases h1
   · have hval := h _ (List.mem_map.2 ⟨t, ht, rfl⟩)
     have hin := (Tm.valid_okV hval).2.2 26 ((vl_mapv t).2 ⟨w, hv, by rw [idxI_at hdup hw 0, vl_vr]; simp⟩)
     omega
 · intro h x hx
   obtain ⟨t, ht, rfl⟩ := List.mem_map.1 hx
   have h1 := okV_26.2 ((hro t ht).mono (show ((tmsVars l []).length : Int) ≤ 26 by omega))
   rw [Tm.valid_iff h1]
   exact hfit t ht
theorem renumL_one_ok {N : Int} {l : List Tm} (hok : ∀ t ∈ l, OkX N t) : (renumL l).length = l.length := by unfold renumL; rw [List.length_map]
abbrev tf_R3_41 := zi tI_3 (zi zI_3 (zi underlying3 (zi tI_4 (zi zI_4 (zi underlying4 (zi tI_29 (zi zI_29 (zi eI_29 (zi eB_29 (zi eZ_29 (zi underlying29 (zi tI_56 (zi zI_56 (zi fI_56_0 (zi fI_56_1 (zi fI_56_2 (zi fI_56_3 (zi bI_56 (zi tI_66 (zi zI_66 (zi eI_66 (zi eB_66 (zi eZ_66 (zi underlying66 (zi tI_74 (zi zI_74 (zi fI_74_0 bI_74)))))))))))))))))))))))))))
theorem c_l6Answer {N : Nat} {σ : Sub} (hg : IsGood σ) (ho : AllS (OkX N) σ) (vars : List Int) (hv : ∀ v ∈ vars, 0 ≤ v ∧ v < (N : Int)) (hl : vars.length ≤ 1000) (st : zy7) :
 zq7 prog 41 [.slice (vars.map iv), .slice (arrN N σ)] st (fun r st' => st' = st ∧ ∃ a, r = .tup [ansAv a, .bool (ansR σ vars).isSome] ∧ ∀ x, ansR σ vars = some x → a = x) := by
 obtain ⟨rk, B, G⟩ := hg.rs
 refine zq7.dropS (zq7.soft ?_)
 refine wF [1000000] 2 func41 ntmps41 rfl rfl ?_
 intro _
 simp -implicitDefEqProofs only [zy4, List.length_map, evF, ↓evZ, implies_true, seval, tf_R3_41]
 intro b4 h4
 refine zq6 (σ := Unit) [1000000] [0, 1, 4] vars 4 6 (fun i _ => ((vars.take i).map (rs σ)).map Tm.av) (fun i _ => ((vars.take i).map (rs σ)).all fitT = true) (fun i _ => [(5, .bool false), (7, .int .i64 i)]) (fun _ _ => st.upd b4 (.cells [.fslice []])) (fun i _ _ e he => by simp only [List.mem_map] at he; obtain ⟨t, _, rfl⟩ := he; exact ⟨Tm.av_junk _, Tm.av_width _⟩) (by decide +kernel) ⟨(), 0, rfl, fun h => absurd rfl h, zx7.mk (by simp -implicitDefEqProofs only [accV_nil, accS_nil, List.take_zero, List.map_nil, zy4, List.length_map, evF, ↓evZ, implies_true, seval, tf_R3_41])⟩ (fun i x s b hx hlt hlt' hdr hinv hb => ?_) (fun s b hge hinv => ?_)
 · have hw := wrap64 (n := (i : Int) + 1) (by omega) (by omega)
   have hxm := List.mem_of_getElem? hx
   obtain ⟨hx0, hx1⟩ := hv x hxm
   have hvr : OkX N (vr x) := ⟨okV_vr hx0 hx1, by rw [vr, Tm.nodes_mk]; simp [sumL]⟩
   have hat : aIndexAddr prog 66 (.slice (vars.map iv)) (.int .i64 (i : Int)) = some (.pptr (.int .i64 x)) := ev_at (av := iv) eI_66 hx rfl
   have hlen' : (((vars.take i).map (rs σ)).map Tm.av).length = i := by simp only [List.length_map, List.length_take]; omega
   have hall : ((vars.take (i + 1)).map (rs σ)).all fitT = fitT (rs σ x) := by
    rw [List.take_add_one, hx]
    simp only [Option.toList_some, List.map_append, List.map_cons, List.map_nil, List.all_append, hinv, List.all_cons, List.all_nil, Bool.and_true, Bool.true_and]
   simp -implicitDefEqProofs only [hlt', zy4, List.length_map, hat, Tm.av_agg, Tm.av_width, Tm.av_store, Tm.av_junk, hw, evF, ↓evZ, implies_true, seval, tf_R3_41]
   refine (c_l1Var x _).to ?_
   simp -implicitDefEqProofs only [zy4, List.length_map, hat, Tm.av_agg, Tm.av_width, Tm.av_store, Tm.av_junk, hw, evF, ↓evZ, implies_true, seval, tf_R3_41]
   refine (c_l6Small hg ho (vr x) hvr _).mono ?_
   rintro _ _ ⟨rfl, y, rfl, hy⟩
   rw [mapv_vr] at hy ⊢
   simp -implicitDefEqProofs only [zy4, List.length_map, hat, Tm.av_agg, Tm.av_width, Tm.av_store, Tm.av_junk, hw, evF, ↓evZ, implies_true, seval, tf_R3_41]
   refine zq4 (fun h => ?_) (fun h => ?_)
   · have h' : fitT (rs σ x) = false := by simpa using h
     have hans : ansR σ vars = none := by
      unfold ansR
      rw [if_neg]
      rintro ⟨h1, _⟩
      have := List.all_eq_true.1 h1 _ (List.mem_map.2 ⟨x, hxm, rfl⟩)
      rw [h'] at this; cases this
     have hbo : ∀ l, (l ≠ [] → st b = none) → (l ≠ [] → b ≠ b4) → (accS (st.upd b4 (.cells [.fslice []])) b l) b4 = some (.cells [.fslice []]) := fun l _ h2 => by
      cases l with
      | nil => exact zy7.upd_same _ _ _
      | cons e l => simp only [accS]; rw [zy7.upd_ne _ _ (Ne.symm (h2 (by simp)))]; exact zy7.upd_same _ _ _
     have hnb : ((vars.take i).map (rs σ)).map Tm.av ≠ [] → b ≠ b4 := fun h => by rintro rfl; have := hb h; rw [zy7.upd_same] at this; cases this
     have hnb2 : ((vars.take i).map (rs σ)).map Tm.av ≠ [] → st b = none := fun h => by have := hb h; rw [zy7.upd_ne _ _ (hnb h)] at this; exact this
     have e1 := hbo _ hnb2 hnb
     simp -implicitDefEqProofs only [zy4, e1, evF, ↓evZ, implies_true, seval, tf_R3_41]
     rw [hans]
     refine ⟨st, ?_, rfl, [], rfl, fun x h => by cases h⟩
     intro z
     by_cases hz : z = b4
     · subst hz; simp [zy7.upd, h4]
     · rw [zy7.upd_ne _ _ hz]
       exact ((Drops.accS (Drops.refl _) hb).trans ((Drops.refl st).upd h4)) z
   · have h' : fitT (rs σ x) = true := by simpa using h
     obtain rfl := hy h'
     simp -implicitDefEqProofs only [zy4, List.length_map, hat, Tm.av_agg, Tm.av_width, Tm.av_store, Tm.av_junk, hw, evF, ↓evZ, implies_true, seval, tf_R3_41]
     refine acc_append eI_29 eB_29 eZ_29 rfl rfl (by intro e he; simp only [List.mem_cons, List.not_mem_nil, or_false] at he; subst he; exact ⟨Tm.av_width _, Tm.av_store _⟩) (tm_widths _) hb (by simp only [hlen', List.length_cons, List.length_nil]; omega) (by simp only [hlen', List.length_cons, List.length_nil]; omega) (fun b' hb' => ?_)
     rw [show (((vars.take i).map (rs σ)).map Tm.av) ++ [(rs σ x).av] = ((vars.take (i + 1)).map (rs σ)).map Tm.av by rw [List.take_add_one, hx]; simp] at hb' ⊢
     simp -implicitDefEqProofs only [zy4, List.length_map, hat, Tm.av_agg, Tm.av_width, Tm.av_store, Tm.av_junk, hw, evF, ↓evZ, implies_true, seval, tf_R3_41]
     exact ⟨(), b', by rw [hall]; exact h', hb', zx7.mk (by simp -implicitDefEqProofs only [hw, zy4, List.length_map, hat, Tm.av_agg, Tm.av_width, Tm.av_store, Tm.av_junk, hw, evF, ↓evZ, implies_true, seval, tf_R3_41])⟩
 · rw [List.take_length] at hinv
   have hok : ∀ t ∈ vars.map (rs σ), OkX N t := fun t ht => by
    obtain ⟨v, h, rfl⟩ := List.mem_map.1 ht
    obtain ⟨h0, h1⟩ := hv v h
    have hf := List.all_eq_true.1 hinv _ ht
    unfold fitT at hf
    simp only [Bool.and_eq_true, decide_eq_true_eq] at hf
    exact ⟨G.okV ho.okV v h0 h1, hf.2⟩
   have hval := renumL_valid hok hinv
   have hans : ansR σ vars = if (tmsVars (vars.map (rs σ)) []).length ≤ 26 then some (renumL (vars.map (rs σ))) else none := by
    unfold ansR
    simp only [hinv, true_and]
   have hren := fun st => c_l1Renumber _ hok (by rw [List.length_map]; exact hl) st
   have hall := fun st => c_l1All (renumL (vars.map (rs σ))) st
   rw [hval] at hall
   generalize renumL (vars.map (rs σ)) = R at *
   generalize (tmsVars (vars.map (rs σ)) []).length = m at *
   simp -implicitDefEqProofs only [hge, fin_agg, fin_tup, fin_int, fin_bool, fin_str, fin_slice, fin_fslice, fin_pptr, fin_ptr, fin_func, fin_map, fin_undef, fin_accV, tm_fin, List.take_length, finL, zy4, List.length_map, evF, ↓evZ, implies_true, seval, tf_R3_41]
   refine (hren _).to ?_
   simp -implicitDefEqProofs only [zy4, List.length_map, evF, ↓evZ, implies_true, seval, tf_R3_41]
   refine wP [(1, 1), (0, 2), (2, 2), (3, 2), (4, 0), (5, 1)] [1, 0, 2, 3, 5] mixed ?_
   simp -implicitDefEqProofs only [zy4, List.length_map, evF, ↓evZ, implies_true, seval, tf_R3_41]
   refine zw4 (hall _) ?_
   simp -implicitDefEqProofs only [zy4, List.length_map, evF, ↓evZ, implies_true, seval, tf_R3_41]
   refine ⟨st, (Drops.refl _).upd h4, rfl, R, ?_, fun x h => ?_⟩
   · rw [hans]
     simp only [soft_agg, soft_tup, soft_int, soft_bool, soft_str, soft_slice, soft_fslice, soft_ptr, soft_pptr, soft_map, soft_mslice, Tm.soft, List.map_cons, List.map_nil]
     by_cases h : m ≤ 26
     · simp [h]
     · simp [h]
   · rw [hans] at h
     split at h
     · cases h; rfl
     · cases h
end Go.AW
