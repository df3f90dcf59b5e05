import Derived.Test.YtcndknlbedcimaaGreatDoorSeql
import Derived.Test.YtcndknlbedcimaaGreatDoorSeqm
import Derived.Test.YtcndknlbedcimaaGreatDoorSeqi
import Derived.Test.YtcndknlbedcimaaGreatDoorSeqf
import Derived.Lib.SliceRun
set_option linter.unusedSimpArgs false
set_option linter.unusedVariables false
set_option maxRecDepth 100000
namespace Go.AW
open Go.Proofs.Tryz
abbrev tf_D3_79 := zi tI_3 (zi zI_3 (zi underlying3 (zi tI_42 (zi zI_42 (zi fI_42_0 (zi fI_42_1 (zi fI_42_2 (zi fI_42_3 (zi bI_42 (zi tI_58 (zi zI_58 (zi eI_58 (zi eB_58 (zi eZ_58 (zi underlying58 (zi tI_99 zI_99))))))))))))))))
theorem c_l1Some (bs : List Bt) (c p : Nat) (st : zy7) (hp : p + 5000 ≤ 1099511627776) (hR : RdAt st c bs p) : zq7 prog 79 [.ptr c 0] st (Dr bs c p 5000 st DrT) := by
 refine zq7.dropS ?_
 refine wF [1000000] 1 func79 ntmps79 rfl rfl ?_
 intro _
 simp -implicitDefEqProofs only [zy4, evF, ↓evZ, implies_true, seval, tf_D3_79]
 intro b hb
 have hbc := hR.ne hb
 refine (c_numF [3, 2, 4, 1] (by simp) (by simp) bs c p (by omega) _ (hR.upd hbc)).mono ?_
 rintro _ _ ⟨y, hy, rfl, rfl⟩
 obtain ⟨n, rfl, hn⟩ : ∃ n : Nat, y = n ∧ n ≤ 4 := by
  simp only [List.mem_cons, List.not_mem_nil, or_false] at hy
  rcases hy with rfl | rfl | rfl | rfl
  · exact ⟨3, rfl, by omega⟩
  · exact ⟨2, rfl, by omega⟩
  · exact ⟨4, rfl, by omega⟩
  · exact ⟨1, rfl, by omega⟩
 have hpw : 4 ^ (n + 2) ≤ 4096 := by
  have := Nat.pow_le_pow_right (n := 4) (by omega) (show n + 2 ≤ 6 by omega)
  simpa using this
 simp -implicitDefEqProofs only [zy4, evF, ↓evZ, implies_true, seval, tf_D3_79]
 refine (c_l1Draw bs c n (p + 1) _ (by omega) (by omega) RdAt.new).mono ?_
 rintro _ _ ⟨p1, hp1, hp1', rfl, t1, ht1, rfl⟩
 rw [zy7.upd_upd]
 simp -implicitDefEqProofs only [Tm.av_cells, Tm.av_store, Tm.av_agg, take_all (Tm.av_cells _), agg_cells (Tm.av_agg _), zy4, hbc, hbc.symm, evF, ↓evZ, implies_true, seval, tf_D3_79]
 refine ⟨st.upd c (rdC bs p1), ?_, p1, by omega, by omega, rfl, t1, ht1, rfl⟩
 intro x
 by_cases e4 : x = b <;> by_cases ec : x = c <;> simp_all [zy7.upd]
mutual
def Tm.sh (m : Int) : Tm → Tm
 | .mk k n s ts => .mk k (if k = 1 then IntKind.i64.wrap (n + m) else n) s (tmsSh m ts)
def tmsSh (m : Int) : List Tm → List Tm
 | [] => []
 | t :: ts => t.sh m :: tmsSh m ts
end
theorem tmsSh_map (m : Int) : ∀ ts : List Tm, tmsSh m ts = ts.map (Tm.sh m)
 | [] => rfl
 | t :: ts => by simp only [tmsSh, List.map_cons, tmsSh_map m ts]
theorem Tm.sh_mk (m k n : Int) (s : ByteArray) (ts : List Tm) : (Tm.mk k n s ts).sh m = .mk k (if k = 1 then IntKind.i64.wrap (n + m) else n) s (ts.map (Tm.sh m)) := by simp only [Tm.sh, tmsSh_map]
theorem dn_sh (m : Int) : ∀ t : Tm, Dn t → Dn (t.sh m) := by
 intro t
 induction t using Tm.ind with
 | h k n s ts ih =>
  rintro ⟨h1, h2⟩
  obtain ⟨a1, a2⟩ := Tm.cv_mk.1 h1
  obtain ⟨b1, b2⟩ := Tm.small_mk h2
  rw [Tm.sh_mk]
  refine ⟨Tm.cv_mk.2 ⟨fun hk => ⟨(a1 hk).1, by rw [(a1 hk).2]; rfl⟩, fun x hx => ?_⟩, ?_⟩
  · obtain ⟨y, hy, rfl⟩ := List.mem_map.1 hx
    exact (ih y hy ⟨a2 y hy, b2 y hy⟩).1
  · simp only [Tm.small, tmsSmall_all, Bool.and_eq_true, decide_eq_true_eq, List.all_eq_true, List.length_map]
    refine ⟨b1, fun x hx => ?_⟩
    obtain ⟨y, hy, rfl⟩ := List.mem_map.1 hx
    exact (ih y hy ⟨a2 y hy, b2 y hy⟩).2
abbrev tf_D3_100 := zi tI_3 (zi zI_3 (zi underlying3 (zi tI_9 (zi zI_9 (zi underlying9 (zi tI_31 (zi zI_31 (zi eI_31 (zi eB_31 (zi eZ_31 (zi underlying31 (zi tI_42 (zi zI_42 (zi fI_42_0 (zi fI_42_1 (zi fI_42_2 (zi fI_42_3 bI_42)))))))))))))))))
theorem c_l3Shift (m : Int) : ∀ (t : Tm) (st : zy7), t.small = true → zq7 prog 100 [t.av, .int .i64 m] st (fun r st' => r = (t.sh m).av ∧ st' = st)
 | .mk k n s ts, st, hsm => by
  obtain ⟨hlen, hsms⟩ := Tm.small_mk hsm
  have IH := fun (x : Tm) (hx : x ∈ ts) st => c_l3Shift m x st (hsms x hx)
  refine zq7.drop2 (zq7.fin ?_)
  simp only [Tm.av_mk]
  refine wF [1000000, 5] 2 func100 ntmps100 rfl rfl ?_
  simp only [fitsL, AV.fits, and_true, List.length_map]
  intro ⟨_, _, _, hl, _⟩
  simp -implicitDefEqProofs only [zy4, evF, ↓evZ, implies_true, seval, tf_D3_100]
  intro b2 hb2 c hc
  have hne : c ≠ b2 := by rintro rfl; rw [zy7.upd_same] at hc; cases hc
  have hn2 : st c = none := by rw [zy7.upd_ne st _ hne] at hc; exact hc
  have hb2c : b2 ≠ c := Ne.symm hne
  have hS : (st.upd b2 (.cells [AV.int .i64 0, AV.int .i64 0, AV.str ⟨#[]⟩, AV.fslice []])) b2 ≠ none := by rw [zy7.upd_same]; simp
  refine zq4 (fun h => ?_) (fun h => ?_)
  · simp only [decide_eq_true_eq] at h
    simp -implicitDefEqProofs only [zy4, hne, hb2c, zy7.upd_upd, evF, ↓evZ, implies_true, seval, tf_D3_100]
    refine zy5 (σ := Nat) [1000000] [1, 2, 4, 5] ts (fun i b => (((ts.take i).map (Tm.sh m)).map Tm.av ≠ [] → (zy7.upd (st.upd b2 (.cells [AV.int .i64 0, AV.int .i64 0, AV.str ⟨#[]⟩, AV.fslice []])) c (.cells ([AV.int .i64 k, AV.int .i64 (IntKind.i64.wrap (n + m)), AV.str s] ++ [accV 4 b (((ts.take i).map (Tm.sh m)).map Tm.av)]))) b = none)) (fun i b => [(6, .int .i64 i)]) (fun i b => kidS (st.upd b2 (.cells [AV.int .i64 0, AV.int .i64 0, AV.str ⟨#[]⟩, AV.fslice []])) c b [AV.int .i64 k, AV.int .i64 (IntKind.i64.wrap (n + m)), AV.str s] (((ts.take i).map (Tm.sh m)).map Tm.av)) (by decide +kernel)
     ⟨0, fun h => absurd rfl h, zx7.mk (by simp -implicitDefEqProofs only [List.length_map, zy4, hne, hb2c, zy7.upd_upd, evF, ↓evZ, implies_true, seval, tf_D3_100])⟩ (fun i x b hx hlt hlt' hdr hinv => ?_) (fun b hge hinv => ?_)
    case refine_1 =>
     have hw := wrap64 (n := (i : Int) + 1) (by omega) (by omega)
     have hlen' : (((ts.take i).map (Tm.sh m)).map Tm.av).length = i := by simp only [List.length_map, List.length_take]; omega
     have htk : (ts.take (i + 1)).map (Tm.sh m) = (ts.take i).map (Tm.sh m) ++ [(Tm.sh m) x] := by rw [List.take_add_one, hx]; simp
     have hbo := kidS_c hinv
     simp -implicitDefEqProofs only [List.length_map, hlt', ev_at (av := Tm.av) eI_31 hx (Tm.av_width x), Nat.zero_add, zy4, hne, hb2c, zy7.upd_upd, evF, ↓evZ, implies_true, seval, tf_D3_100]
     refine wP [(0, 1), (2, 1), (4, 1), (7, 1), (1, 2), (3, 2), (5, 1), (6, 2), (8, 2), (9, 1), (10, 0), (11, 1), (12, 0)] [0, 2, 4, 7, 1, 3, 5, 6, 8, 9, 11] mixed ?_
     simp -implicitDefEqProofs only [ev_at (av := Tm.av) eI_31 hx (Tm.av_width x), Tm.av_agg, Tm.av_width, hbo, accV_agg, accV_width, Nat.zero_add, zy4, hne, hb2c, zy7.upd_upd, evF, ↓evZ, implies_true, seval, tf_D3_100]
     refine zw4 (IH x (List.mem_of_getElem? hx) _) ?_
     simp -implicitDefEqProofs only [Tm.av_agg, Tm.av_width, Tm.av_junk, hbo, accV_agg, accV_width, Nat.zero_add, zy4, hne, hb2c, zy7.upd_upd, evF, ↓evZ, implies_true, seval, tf_D3_100]
     refine acc_append eI_31 eB_31 eZ_31 rfl rfl (by intro e he; simp only [List.mem_cons, List.not_mem_nil, or_false] at he; subst he; exact ⟨Tm.av_width _, Tm.av_store _⟩) (tm_widths _) hinv (by simp only [hlen', List.length_cons, List.length_nil]; omega) (by simp only [hlen', List.length_cons, List.length_nil]; omega) (fun b' hb' => ?_)
     rw [show (((ts.take i).map (Tm.sh m)).map Tm.av) ++ [((Tm.sh m) x).av] = ((ts.take (i + 1)).map (Tm.sh m)).map Tm.av by rw [htk]; simp] at hb' ⊢
     obtain ⟨g1, g2, g3⟩ := kidS_set hb'
     simp only [List.cons_append, List.nil_append] at g1 g3
     simp -implicitDefEqProofs only [g3, accV_cells, accV_store, zy4, Nat.le_refl, g1, hw, zy4, hne, hb2c, zy7.upd_upd, evF, ↓evZ, implies_true, seval, tf_D3_100]
     exact ⟨b', g2, zx7.mk (by simp -implicitDefEqProofs only [zy4, hne, hb2c, zy7.upd_upd, evF, ↓evZ, implies_true, seval, tf_D3_100])⟩
    have hbo := kidS_c hinv
    rw [List.take_length] at hinv hbo ⊢
    simp -implicitDefEqProofs only [List.length_map, hge, zy4, hne, hb2c, zy7.upd_upd, evF, ↓evZ, implies_true, seval, tf_D3_100]
    simp -implicitDefEqProofs only [hbo, zy4, hne, hb2c, zy7.upd_upd, evF, ↓evZ, implies_true, seval, tf_D3_100]
    have h1 := kidS_ne hinv hS hb2c
    rw [zy7.upd_same] at h1
    simp -implicitDefEqProofs only [h1, accV_store, accV_cells, zy4, Nat.le_refl, zy4, hne, hb2c, zy7.upd_upd, evF, ↓evZ, implies_true, seval, tf_D3_100]
    obtain ⟨h2, h3⟩ := kidS_upd (o := .cells [AV.int .i64 k, AV.int .i64 (IntKind.i64.wrap (n + m)), AV.str s, accV 4 b ((ts.map (Tm.sh m)).map Tm.av)]) hinv hS hb2c
    refine ⟨b, _, _, h2, h3, tm_junk _, ⟨4, tm_widths _⟩, ?_, (((Drops.refl _).upd hb2).upd hn2).upd hb2⟩
    simp only [fin_agg, List.map_cons, List.map_nil, fin_int, fin_str, accV_fin, ← Tm.av_mk]
    rw [Tm.sh_mk, if_pos h]
  · simp only [decide_eq_false_iff_not] at h
    simp -implicitDefEqProofs only [zy4, hne, hb2c, zy7.upd_upd, evF, ↓evZ, implies_true, seval, tf_D3_100]
    refine zy5 (σ := Nat) [1000000] [1, 2, 4, 5] ts (fun i b => (((ts.take i).map (Tm.sh m)).map Tm.av ≠ [] → (zy7.upd (st.upd b2 (.cells [AV.int .i64 0, AV.int .i64 0, AV.str ⟨#[]⟩, AV.fslice []])) c (.cells ([AV.int .i64 k, AV.int .i64 (n), AV.str s] ++ [accV 4 b (((ts.take i).map (Tm.sh m)).map Tm.av)]))) b = none)) (fun i b => [(6, .int .i64 i)]) (fun i b => kidS (st.upd b2 (.cells [AV.int .i64 0, AV.int .i64 0, AV.str ⟨#[]⟩, AV.fslice []])) c b [AV.int .i64 k, AV.int .i64 (n), AV.str s] (((ts.take i).map (Tm.sh m)).map Tm.av)) (by decide +kernel)
     ⟨0, fun h => absurd rfl h, zx7.mk (by simp -implicitDefEqProofs only [List.length_map, zy4, hne, hb2c, zy7.upd_upd, evF, ↓evZ, implies_true, seval, tf_D3_100])⟩ (fun i x b hx hlt hlt' hdr hinv => ?_) (fun b hge hinv => ?_)
    case refine_1 =>
     have hw := wrap64 (n := (i : Int) + 1) (by omega) (by omega)
     have hlen' : (((ts.take i).map (Tm.sh m)).map Tm.av).length = i := by simp only [List.length_map, List.length_take]; omega
     have htk : (ts.take (i + 1)).map (Tm.sh m) = (ts.take i).map (Tm.sh m) ++ [(Tm.sh m) x] := by rw [List.take_add_one, hx]; simp
     have hbo := kidS_c hinv
     simp -implicitDefEqProofs only [List.length_map, hlt', ev_at (av := Tm.av) eI_31 hx (Tm.av_width x), Nat.zero_add, zy4, hne, hb2c, zy7.upd_upd, evF, ↓evZ, implies_true, seval, tf_D3_100]
     refine wP [(0, 1), (2, 1), (4, 1), (7, 1), (1, 2), (3, 2), (5, 1), (6, 2), (8, 2), (9, 1), (10, 0), (11, 1), (12, 0)] [0, 2, 4, 7, 1, 3, 5, 6, 8, 9, 11] mixed ?_
     simp -implicitDefEqProofs only [ev_at (av := Tm.av) eI_31 hx (Tm.av_width x), Tm.av_agg, Tm.av_width, hbo, accV_agg, accV_width, Nat.zero_add, zy4, hne, hb2c, zy7.upd_upd, evF, ↓evZ, implies_true, seval, tf_D3_100]
     refine zw4 (IH x (List.mem_of_getElem? hx) _) ?_
     simp -implicitDefEqProofs only [Tm.av_agg, Tm.av_width, Tm.av_junk, hbo, accV_agg, accV_width, Nat.zero_add, zy4, hne, hb2c, zy7.upd_upd, evF, ↓evZ, implies_true, seval, tf_D3_100]
     refine acc_append eI_31 eB_31 eZ_31 rfl rfl (by intro e he; simp only [List.mem_cons, List.not_mem_nil, or_false] at he; subst he; exact ⟨Tm.av_width _, Tm.av_store _⟩) (tm_widths _) hinv (by simp only [hlen', List.length_cons, List.length_nil]; omega) (by simp only [hlen', List.length_cons, List.length_nil]; omega) (fun b' hb' => ?_)
     rw [show (((ts.take i).map (Tm.sh m)).map Tm.av) ++ [((Tm.sh m) x).av] = ((ts.take (i + 1)).map (Tm.sh m)).map Tm.av by rw [htk]; simp] at hb' ⊢
     obtain ⟨g1, g2, g3⟩ := kidS_set hb'
     simp only [List.cons_append, List.nil_append] at g1 g3
     simp -implicitDefEqProofs only [g3, accV_cells, accV_store, zy4, Nat.le_refl, g1, hw, zy4, hne, hb2c, zy7.upd_upd, evF, ↓evZ, implies_true, seval, tf_D3_100]
     exact ⟨b', g2, zx7.mk (by simp -implicitDefEqProofs only [zy4, hne, hb2c, zy7.upd_upd, evF, ↓evZ, implies_true, seval, tf_D3_100])⟩
    have hbo := kidS_c hinv
    rw [List.take_length] at hinv hbo ⊢
    simp -implicitDefEqProofs only [List.length_map, hge, zy4, hne, hb2c, zy7.upd_upd, evF, ↓evZ, implies_true, seval, tf_D3_100]
    simp -implicitDefEqProofs only [hbo, zy4, hne, hb2c, zy7.upd_upd, evF, ↓evZ, implies_true, seval, tf_D3_100]
    have h1 := kidS_ne hinv hS hb2c
    rw [zy7.upd_same] at h1
    simp -implicitDefEqProofs only [h1, accV_store, accV_cells, zy4, Nat.le_refl, zy4, hne, hb2c, zy7.upd_upd, evF, ↓evZ, implies_true, seval, tf_D3_100]
    obtain ⟨h2, h3⟩ := kidS_upd (o := .cells [AV.int .i64 k, AV.int .i64 (n), AV.str s, accV 4 b ((ts.map (Tm.sh m)).map Tm.av)]) hinv hS hb2c
    refine ⟨b, _, _, h2, h3, tm_junk _, ⟨4, tm_widths _⟩, ?_, (((Drops.refl _).upd hb2).upd hn2).upd hb2⟩
    simp only [fin_agg, List.map_cons, List.map_nil, fin_int, fin_str, accV_fin, ← Tm.av_mk]
    rw [Tm.sh_mk, if_neg h]
termination_by t => SizeOf.sizeOf t
decreasing_by have := List.sizeOf_lt_of_mem hx; simp only [Tm.mk.sizeOf_spec]; omega
abbrev tf_D3_74 := zi tI_3 (zi zI_3 (zi underlying3 (zi tI_9 (zi zI_9 (zi underlying9 (zi tI_31 (zi zI_31 (zi eI_31 (zi eB_31 (zi eZ_31 (zi underlying31 (zi tI_42 (zi zI_42 (zi fI_42_0 (zi fI_42_1 (zi fI_42_2 (zi fI_42_3 bI_42)))))))))))))))))
theorem c_l1CopyA (k n : Int) (s : ByteArray) (ts : List Tm) (st : zy7) (hsm : (Tm.mk k n s ts).small = true) : zq7 prog 74 [(Tm.mk k n s ts).av] st (fun r st' => ∃ b, r = .agg [.int .i64 k, .int .i64 n, .str s, accV 4 b (ts.map Tm.av)] ∧ st' = accS st b (ts.map Tm.av) ∧ (ts.map Tm.av ≠ [] → st b = none)) := by
 obtain ⟨hlen, hsms⟩ := Tm.small_mk hsm
 have IH := fun (x : Tm) (hx : x ∈ ts) st => c_l1Copy x st (hsms x hx)
 refine zq7.dropS ?_
 simp only [Tm.av_mk]
 refine wF [] 1 func74 ntmps74 rfl rfl ?_
 simp only [fitsL, AV.fits, and_true, List.length_map]
 intro ⟨_, _, _, hl, _⟩
 simp -implicitDefEqProofs only [evF, ↓evZ, implies_true, seval, tf_D3_74]
 intro b2 hb2 c hc
 have hne : c ≠ b2 := by rintro rfl; rw [zy7.upd_same] at hc; cases hc
 have hn2 : st c = none := by rw [zy7.upd_ne st _ hne] at hc; exact hc
 simp -implicitDefEqProofs only [zy7.upd_upd, zy4, evF, ↓evZ, implies_true, seval, tf_D3_74]
 refine zy5 (σ := Nat) [] [1, 2, 3] ts (fun i b => (((ts.take i).map (fun y => y)).map Tm.av ≠ [] → (zy7.upd (st.upd b2 (.cells [AV.int .i64 0, AV.int .i64 0, AV.str ⟨#[]⟩, AV.fslice []])) c (.cells ([AV.int .i64 k, AV.int .i64 n, AV.str s] ++ [accV 4 b (((ts.take i).map (fun y => y)).map Tm.av)]))) b = none)) (fun i b => [(4, .int .i64 i)]) (fun i b => kidS (st.upd b2 (.cells [AV.int .i64 0, AV.int .i64 0, AV.str ⟨#[]⟩, AV.fslice []])) c b [AV.int .i64 k, AV.int .i64 n, AV.str s] (((ts.take i).map (fun y => y)).map Tm.av)) (by decide +kernel)
  ⟨0, fun h => absurd rfl h, zx7.mk (by simp -implicitDefEqProofs only [List.length_map, evF, ↓evZ, implies_true, seval, tf_D3_74])⟩ (fun i x b hx hlt hlt' hdr hinv => ?_) (fun b hge hinv => ?_)
 case refine_1 =>
  have hw := wrap64 (n := (i : Int) + 1) (by omega) (by omega)
  have hlen' : (((ts.take i).map (fun y => y)).map Tm.av).length = i := by simp only [List.length_map, List.length_take]; omega
  have htk : (ts.take (i + 1)).map (fun y => y) = (ts.take i).map (fun y => y) ++ [(fun y => y) x] := by rw [List.take_add_one, hx]; simp
  have hbo := kidS_c hinv
  simp -implicitDefEqProofs only [List.length_map, hlt', Nat.zero_add, evF, ↓evZ, implies_true, seval, tf_D3_74]
  refine wP [(0, 1), (2, 1), (4, 1), (1, 2), (3, 2), (5, 1), (6, 2), (7, 2), (8, 1), (9, 0), (10, 1), (11, 0)] [0, 2, 4, 1, 3, 5, 6, 7, 8, 10] mixed ?_
  simp -implicitDefEqProofs only [ev_at (av := Tm.av) eI_31 hx (Tm.av_width x), Tm.av_agg, Tm.av_width, hbo, accV_agg, accV_width, Nat.zero_add, evF, ↓evZ, implies_true, seval, tf_D3_74]
  refine zw4 (IH x (List.mem_of_getElem? hx) _) ?_
  simp -implicitDefEqProofs only [Tm.av_agg, Tm.av_width, Tm.av_junk, hbo, accV_agg, accV_width, Nat.zero_add, evF, ↓evZ, implies_true, seval, tf_D3_74]
  refine acc_append eI_31 eB_31 eZ_31 rfl rfl (by intro e he; simp only [List.mem_cons, List.not_mem_nil, or_false] at he; subst he; exact ⟨Tm.av_width _, Tm.av_store _⟩) (tm_widths _) hinv (by simp only [hlen', List.length_cons, List.length_nil]; omega) (by simp only [hlen', List.length_cons, List.length_nil]; omega) (fun b' hb' => ?_)
  rw [show (((ts.take i).map (fun y => y)).map Tm.av) ++ [((fun y => y) x).av] = ((ts.take (i + 1)).map (fun y => y)).map Tm.av by rw [htk]; simp] at hb' ⊢
  obtain ⟨g1, g2, g3⟩ := kidS_set hb'
  simp only [List.cons_append, List.nil_append] at g1 g3
  simp -implicitDefEqProofs only [g3, accV_cells, accV_store, zy4, Nat.le_refl, g1, hw, evF, ↓evZ, implies_true, seval, tf_D3_74]
  exact ⟨b', g2, zx7.mk (by simp -implicitDefEqProofs only [evF, ↓evZ, implies_true, seval, tf_D3_74])⟩
 have hbo := kidS_c hinv
 rw [List.take_length] at hinv hbo ⊢
 simp -implicitDefEqProofs only [List.length_map, hge, evF, ↓evZ, implies_true, seval, tf_D3_74]
 simp -implicitDefEqProofs only [hbo, evF, ↓evZ, implies_true, seval, tf_D3_74]
 have hb2c : b2 ≠ c := Ne.symm hne
 have hS : (st.upd b2 (.cells [AV.int .i64 0, AV.int .i64 0, AV.str ⟨#[]⟩, AV.fslice []])) b2 ≠ none := by rw [zy7.upd_same]; simp
 have h1 := kidS_ne hinv hS hb2c
 rw [zy7.upd_same] at h1
 simp -implicitDefEqProofs only [h1, accV_store, accV_cells, zy4, Nat.le_refl, evF, ↓evZ, implies_true, seval, tf_D3_74]
 obtain ⟨h2, h3⟩ := kidS_upd (o := .cells [AV.int .i64 k, AV.int .i64 n, AV.str s, accV 4 b ((ts.map fun y => y).map Tm.av)]) hinv hS hb2c
 simp only [List.cons_append, List.nil_append] at h2 h3
 rw [h2]
 have D : ∀ o o' o'', Drops (((st.upd b2 o).upd c o').upd b2 o'') st := fun o o' o'' => (((Drops.refl _).upd hb2).upd hn2).upd hb2
 simp only [List.map_id'] at h3 ⊢
 exact ⟨_, drops_acc2 (D _ _ _), b, rfl, rfl, fun h => (D _ _ _ b).1 (h3 h)⟩
abbrev tf_D3_78 := zi tI_3 (zi zI_3 (zi underlying3 (zi tI_9 (zi zI_9 (zi underlying9 (zi tI_31 (zi zI_31 (zi eI_31 (zi eB_31 (zi eZ_31 (zi underlying31 (zi tI_42 (zi zI_42 (zi fI_42_0 (zi fI_42_1 (zi fI_42_2 (zi fI_42_3 (zi bI_42 (zi tI_50 (zi zI_50 (zi fI_50_0 (zi bI_50 (zi tI_58 (zi zI_58 (zi eI_58 (zi eB_58 (zi eZ_58 (zi underlying58 (zi tI_99 (zi zI_99 (zi tI_142 (zi zI_142 (zi eI_142 (zi eB_142 (zi eZ_142 underlying142)))))))))))))))))))))))))))))))))))
theorem c_l1Mutate (bs : List Bt) (c p : Nat) (t : Tm) (hsm : t.small = true) (st : zy7) (hp : p + 10 ≤ 1099511627776) (hR : RdAt st c bs p) :
 zq7 prog 78 [.ptr c 0, t.av] st (Dr bs c p 10 st (fun r => ∃ t : Tm, r = t.av)) := by
 obtain ⟨k, n, s, ts⟩ := t
 refine zq7.dropS (zq7.fin ?_)
 refine wF [1000000, 5] 2 func78 ntmps78 rfl rfl ?_
 intro _
 simp -implicitDefEqProofs only [zy4, evF, ↓evZ, implies_true, seval, tf_D3_78]
 intro b4 h4
 have h4c := hR.ne h4
 have hR' := fun o => hR.upd (o := o) h4c
 refine (c_l1CopyA k n s ts _ hsm).mono ?_
 rintro _ _ ⟨b, rfl, rfl, hb⟩
 simp -implicitDefEqProofs only [accV_agg, accV_width, accV_store, accV_cells, zy4, evF, ↓evZ, implies_true, seval, tf_D3_78]
 intro b5 h5
 obtain ⟨hn5, hb5⟩ := accS_none h5
 have h54 : b5 ≠ b4 := by rintro rfl; rw [zy7.upd_same] at hn5; cases hn5
 have hn5' : st b5 = none := by rw [zy7.upd_ne _ _ h54] at hn5; exact hn5
 have h5c : b5 ≠ c := hR.ne hn5'
 have hW4 : ∀ q, ((st.upd b4 (.cells [.int .i64 0, .int .i64 0, .str ⟨#[]⟩, .fslice []])).upd c (rdC bs q)) b4 = some (.cells [.int .i64 0, .int .i64 0, .str ⟨#[]⟩, .fslice []]) := fun q => by rw [zy7.upd_ne _ _ h4c, zy7.upd_same]
 have hdr : ∀ q Z Y, Drops ((((st.upd b4 (.cells [.int .i64 0, .int .i64 0, .str ⟨#[]⟩, .fslice []])).upd c (rdC bs q)).upd b5 Z).upd b4 Y) (st.upd c (rdC bs q)) := fun q Z Y x => by
  by_cases e4 : x = b4 <;> by_cases ec : x = c <;> by_cases e5 : x = b5 <;> simp_all [zy7.upd]
 have e0 : (accS (st.upd b4 (.cells [.int .i64 0, .int .i64 0, .str ⟨#[]⟩, .fslice []])) b (ts.map Tm.av)).upd b5 (.cells [.int .i64 k, .int .i64 n, .str s, accV 4 b (ts.map Tm.av)]) = kidS (st.upd b4 (.cells [.int .i64 0, .int .i64 0, .str ⟨#[]⟩, .fslice []])) b5 b [.int .i64 k, .int .i64 n, .str s] (ts.map Tm.av) := by
  rw [accS_upd hb5]; rfl
 have i0 : ts.map Tm.av ≠ [] → ((st.upd b4 (.cells [.int .i64 0, .int .i64 0, .str ⟨#[]⟩, .fslice []])).upd b5 (.cells ([.int .i64 k, .int .i64 n, .str s] ++ [accV 4 b (ts.map Tm.av)]))) b = none := fun h => by
  rw [zy7.upd_ne _ _ (Ne.symm (hb5 h))]; exact hb h
 have hUc : (st.upd b4 (.cells [.int .i64 0, .int .i64 0, .str ⟨#[]⟩, .fslice []])) c ≠ none := by rw [hR' _]; simp
 rw [e0]
 have hRk : RdAt (kidS (st.upd b4 (.cells [.int .i64 0, .int .i64 0, .str ⟨#[]⟩, .fslice []])) b5 b [.int .i64 k, .int .i64 n, .str s] (ts.map Tm.av)) c bs p := by
  unfold RdAt
  rw [kidS_ne i0 hUc h5c.symm]
  exact hR' _
 refine (c_pick bs c p (by omega) 50 (by omega) (by omega) _ hRk).mono ?_
 rintro _ _ ⟨j, hj, rfl, rfl⟩
 obtain ⟨e1, i1⟩ := kidS_beside (o := rdC bs (p + 1)) i0 hUc h5c.symm
 rw [e1]
 have hWc : ∀ q, ((st.upd b4 (.cells [.int .i64 0, .int .i64 0, .str ⟨#[]⟩, .fslice []])).upd c (rdC bs q)) c ≠ none := fun q => by rw [zy7.upd_same]; simp
 have hRq : ∀ q (hd l : List AV), (l ≠ [] → (((st.upd b4 (.cells [.int .i64 0, .int .i64 0, .str ⟨#[]⟩, .fslice []])).upd c (rdC bs q)).upd b5 (.cells (hd ++ [accV 4 b l]))) b = none) → RdAt (kidS ((st.upd b4 (.cells [.int .i64 0, .int .i64 0, .str ⟨#[]⟩, .fslice []])).upd c (rdC bs q)) b5 b hd l) c bs q := fun q hd l hi => by
  unfold RdAt
  rw [kidS_ne hi (hWc q) h5c.symm, zy7.upd_same]
  rfl
 clear e0 i0 hRk e1
 simp -implicitDefEqProofs only [zy4, evF, ↓evZ, implies_true, seval, tf_D3_78]
 refine zq4 (fun h0 => ?_) (fun h0 => ?_)
 · simp -implicitDefEqProofs only [zy4, evF, ↓evZ, implies_true, seval, tf_D3_78]
   refine (c_numF [0, 4, 1, 2, 3] (by simp) (by simp) bs c (p + 1) (by omega) _ (hRq _ _ _ i1)).mono ?_
   rintro _ _ ⟨y, _, rfl, rfl⟩
   obtain ⟨e1, i1⟩ := kidS_beside (o := rdC bs (p + 1 + 1)) i1 (hWc _) h5c.symm
   rw [zy7.upd_upd] at e1 i1
   rw [e1]
   have hbo := kidS_c i1
   obtain ⟨e2, i1⟩ := kidS_hd (hd' := [.int .i64 y, .int .i64 n, .str s]) i1
   simp only [List.cons_append, List.nil_append] at e2
   simp -implicitDefEqProofs only [zy4, hbo, evF, ↓evZ, implies_true, seval, tf_D3_78]
   rw [e2]
   have hbo := kidS_c i1
   have h4o := kidS_ne i1 (x := b4) (by rw [hW4]; simp) h54.symm
   rw [hW4] at h4o
   simp -implicitDefEqProofs only [zy4, hbo, h4o, accV_store, evF, ↓evZ, implies_true, seval, tf_D3_78]
   obtain ⟨g5, g6⟩ := kidS_upd (o := .cells [.int .i64 (y), .int .i64 (n), .str (s), accV 4 b ((ts).map Tm.av)]) i1 (show ((st.upd b4 (.cells [.int .i64 0, .int .i64 0, .str ⟨#[]⟩, .fslice []])).upd c (rdC bs (p + 1 + 1))) b4 ≠ none by rw [hW4]; simp) h54.symm
   refine ⟨b, _, _, g5, g6, tm_junk _, ⟨4, tm_widths _⟩, st.upd c (rdC bs (p + 1 + 1)), hdr _ _ _, p + 1 + 1, by omega, by omega, rfl, .mk (y) (n) (s) (ts), ?_⟩
   simp only [fin_agg, List.map_cons, List.map_nil, fin_int, fin_str, accV_fin, Tm.av_mk]
 simp -implicitDefEqProofs only [zy4, evF, ↓evZ, implies_true, seval, tf_D3_78]
 refine zq4 (fun h0 => ?_) (fun h0 => ?_)
 · simp -implicitDefEqProofs only [zy4, evF, ↓evZ, implies_true, seval, tf_D3_78]
   refine (c_numF [26, 1000, -1000, -1, 1] (by simp) (by simp) bs c (p + 1) (by omega) _ (hRq _ _ _ i1)).mono ?_
   rintro _ _ ⟨y, _, rfl, rfl⟩
   obtain ⟨e1, i1⟩ := kidS_beside (o := rdC bs (p + 1 + 1)) i1 (hWc _) h5c.symm
   rw [zy7.upd_upd] at e1 i1
   rw [e1]
   have hbo := kidS_c i1
   obtain ⟨e2, i1⟩ := kidS_hd (hd' := [.int .i64 k, .int .i64 y, .str s]) i1
   simp only [List.cons_append, List.nil_append] at e2
   simp -implicitDefEqProofs only [zy4, hbo, evF, ↓evZ, implies_true, seval, tf_D3_78]
   rw [e2]
   have hbo := kidS_c i1
   have h4o := kidS_ne i1 (x := b4) (by rw [hW4]; simp) h54.symm
   rw [hW4] at h4o
   simp -implicitDefEqProofs only [zy4, hbo, h4o, accV_store, evF, ↓evZ, implies_true, seval, tf_D3_78]
   obtain ⟨g5, g6⟩ := kidS_upd (o := .cells [.int .i64 (k), .int .i64 (y), .str (s), accV 4 b ((ts).map Tm.av)]) i1 (show ((st.upd b4 (.cells [.int .i64 0, .int .i64 0, .str ⟨#[]⟩, .fslice []])).upd c (rdC bs (p + 1 + 1))) b4 ≠ none by rw [hW4]; simp) h54.symm
   refine ⟨b, _, _, g5, g6, tm_junk _, ⟨4, tm_widths _⟩, st.upd c (rdC bs (p + 1 + 1)), hdr _ _ _, p + 1 + 1, by omega, by omega, rfl, .mk (k) (y) (s) (ts), ?_⟩
   simp only [fin_agg, List.map_cons, List.map_nil, fin_int, fin_str, accV_fin, Tm.av_mk]
 simp -implicitDefEqProofs only [zy4, evF, ↓evZ, implies_true, seval, tf_D3_78]
 refine zq4 (fun h0 => ?_) (fun h0 => ?_)
 · simp -implicitDefEqProofs only [zy4, evF, ↓evZ, implies_true, seval, tf_D3_78]
   refine (c_ofF [⟨#[]⟩, ⟨#[88]⟩, ⟨#[116, 111, 111, 108, 111, 110, 103]⟩, ⟨#[195, 169]⟩, ⟨#[97]⟩] (by simp) (by simp) bs c (p + 1) (by omega) _ (hRq _ _ _ i1)).mono ?_
   rintro _ _ ⟨y, _, rfl, rfl⟩
   obtain ⟨e1, i1⟩ := kidS_beside (o := rdC bs (p + 1 + 1)) i1 (hWc _) h5c.symm
   rw [zy7.upd_upd] at e1 i1
   rw [e1]
   have hbo := kidS_c i1
   obtain ⟨e2, i1⟩ := kidS_hd (hd' := [.int .i64 k, .int .i64 n, .str y]) i1
   simp only [List.cons_append, List.nil_append] at e2
   simp -implicitDefEqProofs only [zy4, hbo, evF, ↓evZ, implies_true, seval, tf_D3_78]
   rw [e2]
   have hbo := kidS_c i1
   have h4o := kidS_ne i1 (x := b4) (by rw [hW4]; simp) h54.symm
   rw [hW4] at h4o
   simp -implicitDefEqProofs only [zy4, hbo, h4o, accV_store, evF, ↓evZ, implies_true, seval, tf_D3_78]
   obtain ⟨g5, g6⟩ := kidS_upd (o := .cells [.int .i64 (k), .int .i64 (n), .str (y), accV 4 b ((ts).map Tm.av)]) i1 (show ((st.upd b4 (.cells [.int .i64 0, .int .i64 0, .str ⟨#[]⟩, .fslice []])).upd c (rdC bs (p + 1 + 1))) b4 ≠ none by rw [hW4]; simp) h54.symm
   refine ⟨b, _, _, g5, g6, tm_junk _, ⟨4, tm_widths _⟩, st.upd c (rdC bs (p + 1 + 1)), hdr _ _ _, p + 1 + 1, by omega, by omega, rfl, .mk (k) (n) (y) (ts), ?_⟩
   simp only [fin_agg, List.map_cons, List.map_nil, fin_int, fin_str, accV_fin, Tm.av_mk]
 simp -implicitDefEqProofs only [zy4, evF, ↓evZ, implies_true, seval, tf_D3_78]
 refine zq4 (fun h0 => ?_) (fun h0 => ?_)
 · simp -implicitDefEqProofs only [zy4, evF, ↓evZ, implies_true, seval, tf_D3_78]
   refine zw5 (σ := Nat × List Tm) [1000000, 5] [4, 5, 10] (fun x => (x.2.map Tm.av ≠ [] → (zy7.upd ((st.upd b4 (.cells [.int .i64 0, .int .i64 0, .str ⟨#[]⟩, .fslice []])).upd c (rdC bs (p + 1))) b5 (.cells ([.int .i64 k, .int .i64 n, .str s] ++ [accV 4 x.1 (x.2.map Tm.av)]))) x.1 = none)) (fun _ => []) (fun x => kidS ((st.upd b4 (.cells [.int .i64 0, .int .i64 0, .str ⟨#[]⟩, .fslice []])).upd c (rdC bs (p + 1))) b5 x.1 [.int .i64 k, .int .i64 n, .str s] (x.2.map Tm.av)) (fun x => 5 - x.2.length) (by decide +kernel) ⟨(b, ts), i1, zx7.mk (by simp -implicitDefEqProofs only [zy4, evF, ↓evZ, implies_true, seval, tf_D3_78])⟩ ?_
   rintro ⟨b, acc⟩ i1
   simp only at i1
   have hbo := kidS_c i1
   have haL := accV_len (w := 4) (b := b) (l := acc.map Tm.av) underlying31
   simp -implicitDefEqProofs only [zy4, hbo, accV_agg, accV_width, accV_junk, accV_store, accV_cells, haL, List.length_map, evF, ↓evZ, implies_true, seval, tf_D3_78]
   refine zq4 (fun h1 => ?_) (fun h1 => ?_)
   · simp only [decide_eq_true_eq] at h1
     have hlen' : (acc.map Tm.av).length ≤ 4 := by rw [List.length_map]; omega
     simp -implicitDefEqProofs only [zy4, hbo, accV_agg, accV_width, accV_junk, accV_store, accV_cells, haL, List.length_map, evF, ↓evZ, implies_true, seval, tf_D3_78]
     refine zq5 [(0, 1), (1, 1), (2, 0), (3, 1), (4, 0), (5, 1), (6, 2)] [0, 1, 3, 5] (none0'.upd b5 (.cells [.int .i64 k, .int .i64 n, .str s, accV 4 b (acc.map Tm.av)])) mixed (by decide +kernel) (by decide +kernel) (by decide +kernel) rfl (ext_one hbo) ?_
     simp -implicitDefEqProofs only [zy4, hbo, accV_agg, accV_width, accV_junk, accV_store, accV_cells, haL, List.length_map, evF, ↓evZ, implies_true, seval, tf_D3_78]
     refine (c_l1Int 1 _).to ?_
     simp -implicitDefEqProofs only [Tm.av_agg, Tm.av_width, Tm.av_store, Tm.av_junk, zy4, hbo, accV_agg, accV_width, accV_junk, accV_store, accV_cells, haL, List.length_map, evF, ↓evZ, implies_true, seval, tf_D3_78]
     refine ⟨ext_one hbo, ?_⟩
     refine acc_append eI_31 eB_31 eZ_31 rfl rfl (by intro e he; simp only [List.mem_cons, List.not_mem_nil, or_false] at he; subst he; exact ⟨Tm.av_width _, Tm.av_store _⟩) (tm_widths _) i1 (by simp only [List.length_cons, List.length_nil]; omega) (by simp only [List.length_cons, List.length_nil]; omega) (fun b' hb' => ?_)
     rw [show acc.map Tm.av ++ [(Tm.mk 2 1 ⟨#[]⟩ []).av] = (acc ++ [Tm.mk 2 1 ⟨#[]⟩ []]).map Tm.av by simp] at hb' ⊢
     obtain ⟨g1, g2, g3⟩ := kidS_set hb'
     simp only [List.cons_append, List.nil_append] at g1 g3
     simp -implicitDefEqProofs only [zy4, hbo, accV_agg, accV_width, accV_junk, accV_store, accV_cells, haL, List.length_map, evF, ↓evZ, implies_true, seval, tf_D3_78]
     refine ⟨ext_one g3, ?_⟩
     simp -implicitDefEqProofs only [g3, Nat.le_refl, g1, zy4, hbo, accV_agg, accV_width, accV_junk, accV_store, accV_cells, haL, List.length_map, evF, ↓evZ, implies_true, seval, tf_D3_78]
     refine ⟨(b', acc ++ [Tm.mk 2 1 ⟨#[]⟩ []]), by simp only [List.length_append, List.length_cons, List.length_nil]; omega, g2, zx7.mk (by simp -implicitDefEqProofs only [zy4, hbo, accV_agg, accV_width, accV_junk, accV_store, accV_cells, haL, List.length_map, evF, ↓evZ, implies_true, seval, tf_D3_78])⟩
   · simp -implicitDefEqProofs only [zy4, hbo, accV_agg, accV_width, accV_junk, accV_store, accV_cells, haL, List.length_map, evF, ↓evZ, implies_true, seval, tf_D3_78]
     have hbo := kidS_c i1
     have h4o := kidS_ne i1 (x := b4) (by rw [hW4]; simp) h54.symm
     rw [hW4] at h4o
     simp -implicitDefEqProofs only [zy4, hbo, h4o, accV_store, evF, ↓evZ, implies_true, seval, tf_D3_78]
     obtain ⟨g5, g6⟩ := kidS_upd (o := .cells [.int .i64 (k), .int .i64 (n), .str (s), accV 4 b ((acc).map Tm.av)]) i1 (show ((st.upd b4 (.cells [.int .i64 0, .int .i64 0, .str ⟨#[]⟩, .fslice []])).upd c (rdC bs (p + 1))) b4 ≠ none by rw [hW4]; simp) h54.symm
     refine ⟨b, _, _, g5, g6, tm_junk _, ⟨4, tm_widths _⟩, st.upd c (rdC bs (p + 1)), hdr _ _ _, p + 1, by omega, by omega, rfl, .mk (k) (n) (s) (acc), ?_⟩
     simp only [fin_agg, List.map_cons, List.map_nil, fin_int, fin_str, accV_fin, Tm.av_mk]
 simp -implicitDefEqProofs only [zy4, evF, ↓evZ, implies_true, seval, tf_D3_78]
 refine zq4 (fun h0 => ?_) (fun h0 => ?_)
 · simp -implicitDefEqProofs only [zy4, evF, ↓evZ, implies_true, seval, tf_D3_78]
   have hW5 : ∀ Z, ((st.upd b4 (.cells [.int .i64 0, .int .i64 0, .str ⟨#[]⟩, .fslice []])).upd c (rdC bs (p + 1))).upd b5 Z b4 = some (.cells [.int .i64 0, .int .i64 0, .str ⟨#[]⟩, .fslice []]) := fun Z => by rw [zy7.upd_ne _ _ h54.symm, hW4]
   refine zy5 (σ := Tm) [1000000, 5] [4, 5] (List.range 30) (fun _ _ => True) (fun i _ => [(6, .int .i64 i)]) (fun _ u => ((st.upd b4 (.cells [.int .i64 0, .int .i64 0, .str ⟨#[]⟩, .fslice []])).upd c (rdC bs (p + 1))).upd b5 (.cells u.av.cells)) (by decide +kernel)
    ⟨.mk k n s ts, trivial, ?_⟩ (fun i x u hx hlt hlt' hdr' _ => ?_) (fun u hge _ => ?_)
   · rw [Tm.av_mk]
     exact (less_kid i1 (tm_junk _) ⟨4, tm_widths _⟩).trans (Less.frL (by simp -implicitDefEqProofs only [zy4, evF, ↓evZ, implies_true, seval, tf_D3_78]))
   · rw [List.length_range] at hlt
     have hlt2 : decide ((i : Int) < 30) = true := by simp; omega
     have hw := wrap64 (n := (i : Int) + 1) (by omega) (by omega)
     simp -implicitDefEqProofs only [hlt2, zy4, hw, Tm.av_cells, Tm.av_store, Tm.av_agg, Tm.av_width, Tm.av_junk, take_all (Tm.av_cells _), agg_cells (Tm.av_agg _), Nat.le_refl, evF, ↓evZ, implies_true, seval, tf_D3_78]
     refine (c_l1StructF ⟨#[115]⟩ [u] (by simp) _).to ?_
     simp -implicitDefEqProofs only [zy7.upd_upd, zy4, hw, Tm.av_cells, Tm.av_store, Tm.av_agg, Tm.av_width, Tm.av_junk, take_all (Tm.av_cells _), agg_cells (Tm.av_agg _), Nat.le_refl, evF, ↓evZ, implies_true, seval, tf_D3_78]
     exact ⟨.mk 3 0 ⟨#[115]⟩ [u], zx7.mk (by simp -implicitDefEqProofs only [zy4, hw, Tm.av_cells, Tm.av_store, Tm.av_agg, Tm.av_width, Tm.av_junk, take_all (Tm.av_cells _), agg_cells (Tm.av_agg _), Nat.le_refl, evF, ↓evZ, implies_true, seval, tf_D3_78])⟩
   · have hge' : decide ((29 : Int) + 1 < 30) = false := rfl
     have h4o := hW5 (.cells u.av.cells)
     simp -implicitDefEqProofs only [List.length_range, hge', zy4, h4o, Tm.av_cells, Tm.av_store, Tm.av_agg, Tm.av_width, Tm.av_junk, take_all (Tm.av_cells _), agg_cells (Tm.av_agg _), Nat.le_refl, evF, ↓evZ, implies_true, seval, tf_D3_78]
     exact ⟨0, [], _, rfl, by simp, by simp, ⟨4, by simp⟩, st.upd c (rdC bs (p + 1)), hdr _ _ _, p + 1, by omega, by omega, rfl, u, Tm.fin0 u 0⟩
 · simp -implicitDefEqProofs only [zy4, evF, ↓evZ, implies_true, seval, tf_D3_78]
   have hbo := kidS_c i1
   have h4o := kidS_ne i1 (x := b4) (by rw [hW4]; simp) h54.symm
   rw [hW4] at h4o
   simp -implicitDefEqProofs only [zy4, hbo, h4o, accV_store, evF, ↓evZ, implies_true, seval, tf_D3_78]
   obtain ⟨g5, g6⟩ := kidS_upd (o := .cells [.int .i64 (k), .int .i64 (n), .str (s), accV 4 b ((ts).map Tm.av)]) i1 (show ((st.upd b4 (.cells [.int .i64 0, .int .i64 0, .str ⟨#[]⟩, .fslice []])).upd c (rdC bs (p + 1))) b4 ≠ none by rw [hW4]; simp) h54.symm
   refine ⟨b, _, _, g5, g6, tm_junk _, ⟨4, tm_widths _⟩, st.upd c (rdC bs (p + 1)), hdr _ _ _, p + 1, by omega, by omega, rfl, .mk (k) (n) (s) (ts), ?_⟩
   simp only [fin_agg, List.map_cons, List.map_nil, fin_int, fin_str, accV_fin, Tm.av_mk]
abbrev tf_C3_197 := zi tI_3 (zi zI_3 (zi underlying3 (zi tI_29 (zi zI_29 (zi eI_29 (zi eB_29 (zi eZ_29 (zi underlying29 (zi tI_75 (zi zI_75 (zi fI_75_0 (zi fI_75_1 bI_75))))))))))))
theorem c_IndexFuncCl (l : List Cl) (g : FuncId) (caps : List AV) (p : Cl → Bool) (st : zy7) (hc : ∀ x ∈ l, zq7 prog g ([clAv x] ++ caps) st (fun r st' => r = .bool (p x) ∧ st' = st)) :
 zq7 prog 197 [.slice (l.map clAv), .func g caps] st (fun r st' => ∃ j : Int, r = .int .i64 j ∧ decide (0 ≤ j) = l.any p ∧ st' = st) := by
 refine wF [] 2 func197 ntmps197 rfl rfl ?_
 simp only [fitsL, AV.fits, and_true, List.length_map]
 intro ⟨hl, _⟩
 simp -implicitDefEqProofs only [List.length_map, evF, ↓evZ, implies_true, seval, tf_C3_197]
 refine zy5 (σ := Unit) [] [0, 1, 7] l (fun i _ => (l.drop i).any p = l.any p) (fun i _ => [(8, .int .i64 i)]) (fun _ _ => st) (by decide +kernel) ⟨(), rfl, zx7.mk (by simp -implicitDefEqProofs only [evF, ↓evZ, implies_true, seval, tf_C3_197])⟩ (fun i x _ hx hlt hlt' hdr hinv => ?_) (fun _ hge hinv => ?_)
 case refine_2 =>
  simp -implicitDefEqProofs only [List.length_map, hge, evF, ↓evZ, implies_true, seval, tf_C3_197]
  rw [List.drop_length] at hinv
  exact ⟨-1, rfl, by rw [← hinv]; rfl⟩
 rw [hdr, List.any_cons] at hinv
 have hw := wrap64 (n := (i : Int) + 1) (by omega) (by omega)
 simp -implicitDefEqProofs only [List.length_map, hlt', ev_at (av := clAv) eI_29 hx (clAv_width x), clAv_agg, clAv_width, evF, ↓evZ, implies_true, seval, tf_C3_197]
 refine (hc x (List.mem_of_getElem? hx)).to ?_
 simp -implicitDefEqProofs only [evF, ↓evZ, implies_true, seval, tf_C3_197]
 refine zq4 (fun h => ?_) (fun h => ?_)
 · simp -implicitDefEqProofs only [evF, ↓evZ, implies_true, seval, tf_C3_197]
   exact ⟨i, rfl, by rw [← hinv, h]; simp⟩
 · rw [h, Bool.false_or] at hinv
   simp -implicitDefEqProofs only [evF, ↓evZ, implies_true, seval, tf_C3_197]
   exact ⟨(), hinv, zx7.mk (by simp -implicitDefEqProofs only [hw, evF, ↓evZ, implies_true, seval, tf_C3_197])⟩
abbrev tf_C3_166 := zi tI_3 (zi zI_3 (zi underlying3 (zi tI_4 (zi zI_4 (zi underlying4 (zi tI_29 (zi zI_29 (zi eI_29 (zi eB_29 (zi eZ_29 underlying29))))))))))
theorem c_ContainsFuncCl (l : List Cl) (g : FuncId) (caps : List AV) (p : Cl → Bool) (st : zy7) (hc : ∀ x ∈ l, zq7 prog g ([clAv x] ++ caps) st (fun r st' => r = .bool (p x) ∧ st' = st)) :
 zq7 prog 166 [.slice (l.map clAv), .func g caps] st (fun r st' => r = .bool (l.any p) ∧ st' = st) := by
 refine wF [] 2 func166 ntmps166 rfl rfl ?_
 intro _
 simp -implicitDefEqProofs only [evF, ↓evZ, implies_true, seval, tf_C3_166]
 refine (c_IndexFuncCl l g caps p st hc).mono ?_
 rintro _ _ ⟨j, rfl, hj, rfl⟩
 simp -implicitDefEqProofs only [hj, evF, ↓evZ, implies_true, seval, tf_C3_166]
abbrev tf_C3_168 := zi tI_4 (zi zI_4 (zi underlying4 (zi tI_31 (zi zI_31 (zi eI_31 (zi eB_31 (zi eZ_31 (zi underlying31 (zi tI_42 (zi zI_42 (zi fI_42_0 (zi fI_42_1 (zi fI_42_2 (zi fI_42_3 (zi bI_42 (zi tI_75 (zi zI_75 (zi fI_75_0 (zi fI_75_1 bI_75)))))))))))))))))))
theorem c_impl_ClauseValid (c : Cl) (st : zy7) : zq7 prog 168 [clAv c] st (fun r st' => r = .bool (clOk c) ∧ st' = st) := by
 obtain ⟨⟨k, n, s, ts⟩, b⟩ := c
 have hv := fun st => c_impl_TermValid (.mk k n s ts) st
 have hp := fun st => c_isPlain k n s ts st
 simp only [Tm.av_mk] at hv hp
 have hg := fun st => c_goalsValid b st
 simp only [clAv_mk, clOk, plainT]
 simp only [queryOk] at hg
 generalize (Tm.mk k n s ts).valid = v at *
 refine wF [1000000] 1 func168 ntmps168 rfl rfl ?_
 intro _
 simp -implicitDefEqProofs only [evF, ↓evZ, implies_true, seval, tf_C3_168]
 refine (hv _).to ?_
 cases v with
 | false => simp -implicitDefEqProofs only [Bool.false_and, evF, ↓evZ, implies_true, seval, tf_C3_168]
 | true =>
  simp -implicitDefEqProofs only [beq_self_eq_true, Bool.true_and, evF, ↓evZ, implies_true, seval, tf_C3_168]
  refine (hp _).to ?_
  cases hpl : plainGoal k s (ts.length : Int) with
  | false => simp -implicitDefEqProofs only [Bool.false_and, evF, ↓evZ, implies_true, seval, tf_C3_168]
  | true =>
   simp -implicitDefEqProofs only [beq_self_eq_true, Bool.true_and, evF, ↓evZ, implies_true, seval, tf_C3_168]
   refine (hg _).to ?_
   simp -implicitDefEqProofs only [evF, ↓evZ, implies_true, seval, tf_C3_168]
abbrev tf_C3_167 := zi tI_4 (zi zI_4 (zi underlying4 (zi tI_75 (zi zI_75 (zi fI_75_0 (zi fI_75_1 bI_75))))))
theorem c_ProgramValid_1 (c : Cl) (st : zy7) : zq7 prog 167 [clAv c] st (fun r st' => r = .bool (!clOk c) ∧ st' = st) := by
 refine wF [1000000] 1 func167 ntmps167 rfl rfl ?_
 intro _
 simp -implicitDefEqProofs only [clAv_junk, clAv_agg, clAv_width, evF, ↓evZ, implies_true, seval, tf_C3_167]
 refine (c_impl_ClauseValid c st).to ?_
 simp -implicitDefEqProofs only [evF, ↓evZ, implies_true, seval, tf_C3_167]
abbrev tf_C3_122 := zi tI_3 (zi zI_3 (zi underlying3 (zi tI_4 (zi zI_4 (zi underlying4 (zi tI_29 (zi zI_29 (zi eI_29 (zi eB_29 (zi eZ_29 underlying29))))))))))
theorem c_impl_ProgramValid (p : List Cl) (st : zy7) : zq7 prog 122 [.slice (p.map clAv)] st (fun r st' => r = .bool (progOk p) ∧ st' = st) := by
 refine wF [1000000] 1 func122 ntmps122 rfl rfl ?_
 simp only [fitsL, AV.fits, and_true, List.length_map]
 intro _
 unfold progOk
 simp -implicitDefEqProofs only [List.length_map, evF, ↓evZ, implies_true, seval, tf_C3_122]
 refine zx4 (fun h => ?_) (fun h => ?_)
 · simp only [decide_eq_true_eq] at h
   rw [show decide (p.length ≤ 20) = true by simp; omega]
   simp -implicitDefEqProofs only [h, List.length_map, evF, ↓evZ, implies_true, seval, tf_C3_122]
   refine (c_ContainsFuncCl p _ [] (fun t => !clOk t) st fun x _ => c_ProgramValid_1 x st).to ?_
   simp -implicitDefEqProofs only [h, any_not_all, List.length_map, evF, ↓evZ, implies_true, seval, tf_C3_122]
 · simp only [Bool.not_true, decide_eq_false_iff_not] at h
   rw [show decide (p.length ≤ 20) = false by simp; omega]
   simp -implicitDefEqProofs only [h, List.length_map, evF, ↓evZ, implies_true, seval, tf_C3_122]
   rfl
abbrev tf_C3_87 := zi tI_3 (zi zI_3 (zi underlying3 (zi tI_4 (zi zI_4 (zi underlying4 (zi tI_31 (zi zI_31 (zi eI_31 (zi eB_31 (zi eZ_31 (zi underlying31 (zi tI_42 (zi zI_42 (zi fI_42_0 (zi fI_42_1 (zi fI_42_2 (zi fI_42_3 (zi bI_42 (zi tI_75 (zi zI_75 (zi fI_75_0 (zi fI_75_1 bI_75))))))))))))))))))))))
theorem c_spec_ClauseValid (c : Cl) (st : zy7) : zq7 prog 87 [clAv c] st (fun r st' => r = .bool (clOk c) ∧ st' = st) := by
 obtain ⟨⟨k, n, s, ts⟩, l⟩ := c
 have hv := fun st => c_spec_TermValid (.mk k n s ts) st
 have hp := fun st => c_l4Plain k n s ts st
 simp only [Tm.av_mk] at hv hp
 simp only [clAv_mk, clOk, plainT]
 generalize (Tm.mk k n s ts).valid = v at *
 refine wF [1000000] 1 func87 ntmps87 rfl rfl ?_
 simp only [fitsL, AV.fits, and_true, List.length_map]
 intro ⟨_, _, _, _, hl, _⟩
 have hend : l.all Tm.goal = true ∨ l.length > 6 → (decide ((l.length : Int) ≤ 6) && v && plainGoal k s (ts.length : Int)) = (v && plainGoal k s (ts.length : Int) && (decide (l.length ≤ 6) && l.all Tm.goal)) := fun h => by
  by_cases h6 : l.length ≤ 6
  · have hg : l.all Tm.goal = true := h.resolve_right (by omega)
    rw [hg, show decide ((l.length : Int) ≤ 6) = true from decide_eq_true (by omega), show decide (l.length ≤ 6) = true from decide_eq_true h6]
    simp
  · rw [show decide ((l.length : Int) ≤ 6) = false from decide_eq_false (by omega), show decide (l.length ≤ 6) = false from decide_eq_false h6]
    simp
 simp -implicitDefEqProofs only [List.length_map, evF, ↓evZ, implies_true, seval, tf_C3_87]
 refine zy5 (σ := Unit) [1000000] [1] l (fun i _ => i ≤ 7 ∧ (l.take i).all Tm.goal = true) (fun i _ => [(2, .bool false), (3, .int .i64 i)]) (fun _ _ => st) (by decide +kernel) ⟨(), ⟨by omega, by simp⟩, zx7.mk (by simp -implicitDefEqProofs only [List.length_map, List.length_map, evF, ↓evZ, implies_true, seval, tf_C3_87])⟩ (fun i x _ hx hlt hlt' hdr hinv => ?_) (fun _ hge hinv => ?_)
 · obtain ⟨i1, i2⟩ := hinv
   have hw := wrap64 (n := (i : Int) + 1) (by omega) (by omega)
   by_cases h7 : i ≤ 6
   · have h7' : decide ((i : Int) ≤ 6) = true := decide_eq_true (by omega)
     have hat := ev_at (av := Tm.av) eI_31 hx (Tm.av_width x)
     simp -implicitDefEqProofs only [hlt', decide_true, beq_self_eq_true, List.length_map, h7', hat, Tm.av_agg, Tm.av_width, evF, ↓evZ, implies_true, seval, tf_C3_87]
     refine (c_spec_GoalValid x st).to ?_
     simp -implicitDefEqProofs only [List.length_map, h7', hat, Tm.av_agg, Tm.av_width, evF, ↓evZ, implies_true, seval, tf_C3_87]
     refine zq4 (fun h2 => ?_) (fun h2 => ?_)
     · simp only [Bool.not_eq_true'] at h2
       simp -implicitDefEqProofs only [List.length_map, h7', hat, Tm.av_agg, Tm.av_width, evF, ↓evZ, implies_true, seval, tf_C3_87]
       have : l.all Tm.goal = false := all_at hx h2
       rw [this]; simp
     · simp only [Bool.not_eq_false'] at h2
       simp -implicitDefEqProofs only [List.length_map, h7', hat, Tm.av_agg, Tm.av_width, evF, ↓evZ, implies_true, seval, tf_C3_87]
       refine ⟨(), ⟨by omega, ?_⟩, zx7.mk (by simp -implicitDefEqProofs only [hw, List.length_map, h7', hat, Tm.av_agg, Tm.av_width, evF, ↓evZ, implies_true, seval, tf_C3_87])⟩
       rw [List.take_add_one, hx, List.all_append, i2]
       simp [h2]
   · have h7' : decide ((i : Int) ≤ 6) = false := decide_eq_false (by omega)
     have h8 : decide ((l.length : Int) ≤ 6) = false := decide_eq_false (by omega)
     rw [← hend (.inr (by omega)), h8]
     simp -implicitDefEqProofs only [hlt', decide_true, beq_self_eq_true, h8, Bool.false_and, List.length_map, h7', evF, ↓evZ, implies_true, seval, tf_C3_87]
 · obtain ⟨i1, i2⟩ := hinv
   rw [List.take_length] at i2
   rw [← hend (.inl i2)]
   cases h8 : decide ((l.length : Int) ≤ 6) with
   | false =>
    simp -implicitDefEqProofs only [hge, List.length_map, h8, Bool.false_and, evF, ↓evZ, implies_true, seval, tf_C3_87]
   | true =>
    simp -implicitDefEqProofs only [hge, beq_self_eq_true, List.length_map, h8, Bool.true_and, evF, ↓evZ, implies_true, seval, tf_C3_87]
    refine (hv _).to ?_
    cases v with
    | false => simp -implicitDefEqProofs only [Bool.false_and, List.length_map, h8, Bool.true_and, evF, ↓evZ, implies_true, seval, tf_C3_87]
    | true =>
     simp -implicitDefEqProofs only [beq_self_eq_true, List.length_map, h8, Bool.true_and, evF, ↓evZ, implies_true, seval, tf_C3_87]
     refine (hp _).to ?_
     simp -implicitDefEqProofs only [List.length_map, h8, Bool.true_and, evF, ↓evZ, implies_true, seval, tf_C3_87]
abbrev tf_C3_37 := zi tI_3 (zi zI_3 (zi underlying3 (zi tI_4 (zi zI_4 (zi underlying4 (zi tI_29 (zi zI_29 (zi eI_29 (zi eB_29 (zi eZ_29 (zi underlying29 (zi tI_75 (zi zI_75 (zi fI_75_0 (zi fI_75_1 bI_75)))))))))))))))
theorem c_spec_ProgramValid (l : List Cl) (st : zy7) : zq7 prog 37 [.slice (l.map clAv)] st (fun r st' => r = .bool (progOk l) ∧ st' = st) := by
 refine wF [1000000] 1 func37 ntmps37 rfl rfl ?_
 simp only [fitsL, AV.fits, and_true, List.length_map]
 intro ⟨hl, _⟩
 simp -implicitDefEqProofs only [List.length_map, evF, ↓evZ, implies_true, seval, tf_C3_37]
 refine zy5 (σ := Unit) [1000000] [0] l (fun i _ => i ≤ 21 ∧ (l.take i).all clOk = true) (fun i _ => [(2, .bool false), (3, .int .i64 i)]) (fun _ _ => st) (by decide +kernel) ⟨(), ⟨by omega, by simp⟩, zx7.mk (by simp -implicitDefEqProofs only [List.length_map, List.length_map, evF, ↓evZ, implies_true, seval, tf_C3_37])⟩ (fun i x _ hx hlt hlt' hdr hinv => ?_) (fun _ hge hinv => ?_)
 · obtain ⟨i1, i2⟩ := hinv
   have hw := wrap64 (n := (i : Int) + 1) (by omega) (by omega)
   by_cases h7 : i ≤ 20
   · have h7' : decide ((i : Int) ≤ 20) = true := decide_eq_true (by omega)
     have hat := ev_at (av := clAv) eI_29 hx (clAv_width x)
     simp -implicitDefEqProofs only [hlt', decide_true, beq_self_eq_true, List.length_map, h7', hat, clAv_agg, clAv_width, evF, ↓evZ, implies_true, seval, tf_C3_37]
     refine (c_spec_ClauseValid x st).to ?_
     simp -implicitDefEqProofs only [List.length_map, h7', hat, clAv_agg, clAv_width, evF, ↓evZ, implies_true, seval, tf_C3_37]
     refine zq4 (fun h2 => ?_) (fun h2 => ?_)
     · simp only [Bool.not_eq_true'] at h2
       simp -implicitDefEqProofs only [List.length_map, h7', hat, clAv_agg, clAv_width, evF, ↓evZ, implies_true, seval, tf_C3_37]
       have : l.all clOk = false := all_at hx h2
       simp only [progOk, this, Bool.and_false]
     · simp only [Bool.not_eq_false'] at h2
       simp -implicitDefEqProofs only [List.length_map, h7', hat, clAv_agg, clAv_width, evF, ↓evZ, implies_true, seval, tf_C3_37]
       refine ⟨(), ⟨by omega, ?_⟩, zx7.mk (by simp -implicitDefEqProofs only [hw, List.length_map, h7', hat, clAv_agg, clAv_width, evF, ↓evZ, implies_true, seval, tf_C3_37])⟩
       rw [List.take_add_one, hx, List.all_append, i2]
       simp [h2]
   · have h7' : decide ((i : Int) ≤ 20) = false := decide_eq_false (by omega)
     have h8 : decide ((l.length : Int) ≤ 20) = false := decide_eq_false (by omega)
     have h9 : decide (l.length ≤ 20) = false := decide_eq_false (by omega)
     simp -implicitDefEqProofs only [hlt', decide_true, beq_self_eq_true, List.length_map, h7', h8, progOk, h9, Bool.false_and, evF, ↓evZ, implies_true, seval, tf_C3_37]
 · obtain ⟨i1, i2⟩ := hinv
   rw [List.take_length] at i2
   simp -implicitDefEqProofs only [hge, List.length_map, evF, ↓evZ, implies_true, seval, tf_C3_37]
   simp only [progOk, i2, Bool.and_true, AV.bool.injEq, decide_eq_decide]
   omega
end Go.AW
namespace Go.AW

def ownB : AV → List Nat
 | .mslice b _ _ _ => [b]
 | _ => []
def AccW (st : zy7) (w : Nat) (q : AV) (l : List AV) : Prop :=
 (q = .fslice [] ∧ l = []) ∨ ∃ b cs, q = .mslice b 0 l.length w ∧ st b = Option.some (.cells cs) ∧ cs.take (l.length * w) = l.flatMap AV.cells ∧ l.length * w ≤ cs.length
theorem AccW.shape {st : zy7} {w : Nat} {q : AV} {l : List AV} (h : AccW st w q l) : q.isAgg = false ∧ q.width = 1 ∧ q.isJunk = false ∧ q.cells = [q] ∧ q.storable = true := by
 rcases h with ⟨rfl, _⟩ | ⟨b', cs, rfl, _⟩ <;> exact ⟨rfl, rfl, rfl, rfl, rfl⟩
theorem AccW.keep {st st' : zy7} {w : Nat} {q : AV} {l : List AV} (h : AccW st w q l) (hk : ∀ b ∈ ownB q, st' b = st b) : AccW st' w q l := by
 rcases h with h | ⟨b, cs, rfl, hb, h2⟩
 · exact .inl h
 · exact .inr ⟨b, cs, rfl, by rw [hk b (by simp [ownB])]; exact hb, h2⟩
theorem AccW.some {st : zy7} {w : Nat} {q : AV} {l : List AV} (h : AccW st w q l) : ∀ b ∈ ownB q, ∃ cs, st b = Option.some (.cells cs) := by
 intro b hb
 rcases h with ⟨rfl, _⟩ | ⟨b', cs, rfl, hb', _⟩
 · simp [ownB] at hb
 · simp only [ownB, List.mem_cons, List.not_mem_nil, or_false] at hb; subst hb; exact ⟨cs, hb'⟩
theorem AccW.len {P : Program} {t e : TypeId} {st : zy7} {w : Nat} {q : AV} {l : List AV} (h : AccW st w q l) (hu : P.underlying t = Option.some (.slice e)) : aLen P t q = Option.some (.int .i64 (l.length : Int)) := by
 rcases h with ⟨rfl, rfl⟩ | ⟨b, cs, rfl, _⟩ <;> simp only [aLen, hu, List.length_nil]
theorem AccW.append {P : Program} {t : TypeId} {ag : Bool} {bytes w : Nat} {zs : List AV} {st : zy7} {q : AV} {l : List AV} {x : AV} {K : AV → zy7 → Prop} (hI : eI P t = Option.some (ag, w)) (hB : eB P t = Option.some bytes) (hZ : eZ P t = Option.some zs) (hz : zs.length = w) (hb8 : bytes ≤ 4096)
 (h : AccW st w q l) (hx : x.width = w) (hxs : x.cells.all AV.storable = true) (hl : l.length ≤ 1073741824)
 (hK : ∀ q' st', AccW st' w q' (l ++ [x]) → (∀ y, y ∉ ownB q → y ∉ ownB q' → st' y = st y) → (∀ y ∈ ownB q', y ∈ ownB q ∨ st y = none) → K q' st') : aAppend P t st q (.fslice [x]) K := by
 have hfit : appFit w [x] := by intro e he; simp only [List.mem_cons, List.not_mem_nil, or_false] at he; subst he; exact ⟨hx, hxs⟩
 have hbytes : (l.length + 1) * bytes ≤ 140737488355328 := by
  have := Nat.mul_le_mul (show l.length + 1 ≤ 1073741825 by omega) hb8
  omega
 have hxc : x.cells.length = w := by rw [cells_width, hx]
 unfold aAppend
 simp only [hI, hB, hZ, aElems]
 refine ⟨hz, hfit, ?_⟩
 rcases h with ⟨rfl, rfl⟩ | ⟨b, cs, rfl, hb, hcs, hcl⟩
 · simp only [List.length_nil, List.length_cons, Nat.zero_add] at hbytes ⊢
   refine ⟨by omega, by omega, by simp, fun h => by simp at h, fun _ b hb => ?_⟩
   refine hK _ _ (.inr ⟨b, x.cells, rfl, by rw [zy7.upd_same]; simp, ?_, ?_⟩) (fun y _ hy => ?_) (fun y hy => ?_)
   · simp only [List.nil_append, List.length_cons, List.length_nil, Nat.zero_add, Nat.one_mul, List.flatMap_cons, List.flatMap_nil, List.append_nil]
     rw [← hxc, List.take_length]
   · simp only [List.nil_append, List.length_cons, List.length_nil, Nat.zero_add, Nat.one_mul]
     omega
   · simp only [ownB, List.mem_cons, List.not_mem_nil, or_false] at hy
     rw [zy7.upd_ne _ _ hy]
   · simp only [ownB, List.mem_cons, List.not_mem_nil, or_false] at hy
     subst hy; exact .inr hb
 · simp only [List.length_cons, List.length_nil, Nat.zero_add, hb]
   have hnew : cs.take (l.length * w) ++ [x].flatMap AV.cells = (l ++ [x]).flatMap AV.cells := by rw [hcs]; simp
   have hlen : ((l ++ [x]).flatMap AV.cells).length = (l ++ [x]).length * w := by
    rw [← hnew, List.length_append, List.length_take, Nat.min_eq_left hcl]
    simp only [List.flatMap_cons, List.flatMap_nil, List.append_nil, hxc, List.length_append, List.length_cons, List.length_nil]
    rw [Nat.add_mul]; omega
   refine ⟨trivial, hbytes, by omega, hcl, ?_, fun b' hb' => ?_⟩
   · rw [hnew]
     refine hK _ _ (.inr ⟨b, _, by simp, zy7.upd_same _ _ _, by rw [List.take_of_length_le (by rw [hlen]; exact Nat.le_refl _)], by rw [hlen]; exact Nat.le_refl _⟩) (fun y hy _ => ?_) (fun y hy => .inl hy)
     simp only [ownB, List.mem_cons, List.not_mem_nil, or_false] at hy
     rw [zy7.upd_ne _ _ hy]
   · rw [hnew]
     refine hK _ _ (.inr ⟨b', _, by simp, zy7.upd_same _ _ _, by rw [List.take_of_length_le (by rw [hlen]; exact Nat.le_refl _)], by rw [hlen]; exact Nat.le_refl _⟩) (fun y hy hy' => ?_) (fun y hy => ?_)
     · simp only [ownB, List.mem_cons, List.not_mem_nil, or_false] at hy hy'
       rw [zy7.upd_ne _ _ hy']
       simp [zy7.erase, hy]
     · simp only [ownB, List.mem_cons, List.not_mem_nil, or_false] at hy
       subst hy; exact .inr hb'
def cutQ (k : Nat) : AV → AV
 | .mslice b o _ w => .mslice b o k w
 | a => a
theorem AccW.take {st : zy7} {w : Nat} {q : AV} {l : List AV} (h : AccW st w q l) {k : Nat} (hk : k ≤ l.length) (hw : ∀ e ∈ l, e.width = w) : AccW st w (cutQ k q) (l.take k) := by
 rcases h with ⟨rfl, rfl⟩ | ⟨b, cs, rfl, hb, hcs, hcl⟩
 · exact .inl ⟨rfl, by simp⟩
 · have hlk : (l.take k).length = k := by rw [List.length_take]; omega
   have h1 : k * w ≤ l.length * w := Nat.mul_le_mul_right w hk
   refine .inr ⟨b, cs, by rw [hlk]; rfl, hb, ?_, by rw [hlk]; omega⟩
   rw [hlk]
   have h2 : cs.take (k * w) = (cs.take (l.length * w)).take (k * w) := by rw [List.take_take, Nat.min_eq_left h1]
   rw [h2, hcs]
   have h3 : l.flatMap AV.cells = (l.take k).flatMap AV.cells ++ (l.drop k).flatMap AV.cells := by rw [← List.flatMap_append, List.take_append_drop]
   have h4 : ((l.take k).flatMap AV.cells).length = k * w := by rw [flat_length (n := w) (es := l.take k) (fun e he => hw e (List.mem_of_mem_take he)), hlk]
   rw [h3, List.take_left' h4]
theorem ownB_cutQ (k : Nat) (q : AV) : ownB (cutQ k q) = ownB q := by cases q <;> rfl
theorem AccW.at {st : zy7} {w : Nat} {q : AV} {l : List AV} (h : AccW st w q l) (hw : ∀ e ∈ l, e.width = w) {i : Nat} {e : AV} (he : l[i]? = .some e) :
 ∃ b cs, q = .mslice b 0 l.length w ∧ st b = .some (.cells cs) ∧ i * w + w ≤ cs.length ∧ (cs.drop (i * w)).take w = e.cells := by
 obtain ⟨hi, hei⟩ := List.getElem?_eq_some_iff.1 he
 rcases h with ⟨rfl, rfl⟩ | ⟨b, cs, rfl, hb, hcs, hcl⟩
 · simp at he
 · have h1 : (i + 1) * w ≤ l.length * w := Nat.mul_le_mul_right w hi
   rw [Nat.add_mul, Nat.one_mul] at h1
   refine ⟨b, cs, rfl, hb, by omega, ?_⟩
   have h2 : l = l.take i ++ e :: l.drop (i + 1) := by rw [← hei, ← List.drop_eq_getElem_cons hi, List.take_append_drop]
   have hA : ((l.take i).flatMap AV.cells).length = i * w := by
    rw [flat_length (n := w) (es := l.take i) (fun e he => hw e (List.mem_of_mem_take he)), List.length_take, Nat.min_eq_left (by omega)]
   have hE : e.cells.length = w := by rw [cells_width]; exact hw e (List.mem_of_getElem? he)
   have h3 : (cs.drop (i * w)).take w = ((cs.take (l.length * w)).drop (i * w)).take w := by
    rw [List.drop_take, List.take_take, Nat.min_eq_left (by omega)]
   rw [h3, hcs, h2]
   simp only [List.flatMap_append, List.flatMap_cons]
   rw [List.drop_left' hA, List.take_left' hE]
theorem VRelL.fz {h : Heap} {st : zy7} {b : Nat} {es : List AV} (S : SRel h st) (hb : st b = some (.cells (es.flatMap AV.cells))) (hj : ∀ e ∈ es, e.isJunk = false) (hE : Even es) : ∀ {us : List AV} {vs : List Value}, VRelL h st us vs → VRelL h (st.erase b) (fzL b es us) vs
 | [], vs, x => by simp only [VRelL] at x; simp [fzL, VRelL, x]
 | a :: us, vs, x => by
  simp only [VRelL] at x
  obtain ⟨v, r, rfl, x1, x2⟩ := x
  simp only [fzL, VRelL]
  exact ⟨v, r, rfl, x1.fz S hb hj hE, VRelL.fz S hb hj hE x2⟩
theorem StepH.unerase {h h' : Heap} {st st' : zy7} {b : Nat} (x : StepH h (st.erase b) h' st') : StepH h st h' st' :=
 ⟨x.size, fun c hc e => x.keep c hc (zy7.erase_none st e), x.shape⟩
theorem zq7.frzA {P : Program} {g : FuncId} {args : List AV} {st : zy7} {Q : AV → zy7 → Prop} (b : Nat) (es : List AV) (hb : st b = some (.cells (es.flatMap AV.cells))) (hj : ∀ e ∈ es, e.isJunk = false) (hE : Even es) (x : zq7 P g (fzL b es args) (st.erase b) Q) : zq7 P g args st Q :=
 ⟨x.1, fun w vs S V => (x.2 w vs ((Drops.erase' st b).srel S) (V.fz S hb hj hE)).mono fun _ _ ⟨v, r, st', e, a, b', c, d, q⟩ => ⟨v, r, st', e, a, b', c.unerase, d, q⟩⟩
def Lit (st : zy7) (w : Nat) (l : List AV) (q : AV) (s : zy7) : Prop := (q = .fslice l ∧ s = st) ∨ ∃ b, st b = none ∧ q = .mslice b 0 l.length w ∧ s = st.upd b (.cells (l.flatMap AV.cells))
theorem app_lit {P : Program} {t : TypeId} {ag : Bool} {w bytes : Nat} {zs : List AV} {st : zy7} {es xs : List AV} {x : AV} {K : AV → zy7 → Prop} (hI : eI P t = some (ag, w)) (hB : eB P t = some bytes) (hZ : eZ P t = some zs) (hz : zs.length = w) (hx : x = .slice xs ∨ x = .fslice xs) (hes : ∀ e ∈ es, e.width = w) (hfit : appFit w xs) (hl : (es.length + xs.length) * bytes ≤ 140737488355328) (hl2 : es.length + xs.length ≤ 9223372036854775807)
 (hK : ∀ q s, Lit st w (es ++ xs) q s → K q s) : aAppend P t st (.fslice es) x K := by
 unfold aAppend
 have he : aElems x = some xs := by rcases hx with rfl | rfl <;> rfl
 simp only [hI, hB, hZ, he]
 refine ⟨hz, hfit, hl, hl2, hes, fun h => ?_, fun _ b hb => ?_⟩
 · subst h
   exact hK _ _ (.inl ⟨by rw [List.append_nil], rfl⟩)
 · exact hK _ _ (.inr ⟨b, hb, by rw [List.length_append], rfl⟩)
theorem Lit.call {P : Program} {g : FuncId} {st s : zy7} {w : Nat} {l : List AV} {q : AV} {post : List AV} {Q : AV → zy7 → Prop} (h : Lit st w l q s) (hj : ∀ e ∈ l, e.isJunk = false) (hw : ∀ e ∈ l, e.width = w) (hp : ∀ b, fzL b l post = post) (x : zq7 P g (.slice l :: post) st Q) : zq7 P g (q :: post) s Q := by
 rcases h with ⟨rfl, rfl⟩ | ⟨b, hb, rfl, rfl⟩
 · refine zq7.args x fun hp vs S V => ?_
   simp only [VRelL] at V ⊢
   obtain ⟨v, r, rfl, V1, V2⟩ := V
   exact ⟨v, r, rfl, V1.fslice_slice, V2⟩
 · refine zq7.frzA b l (zy7.upd_same _ _ _) hj ⟨w, hw⟩ ?_
   rw [zy7.erase_upd st b _ hb]
   have : fzL b l (.mslice b 0 l.length w :: post) = .slice l :: post := by
    show (AV.mslice b 0 l.length w).fz b l :: fzL b l post = _
    rw [hp]
    simp [AV.fz]
   rw [this]
   exact x
end Go.AW
namespace Go.AW
open Go.Proofs.Tryz
def nv (i : Nat) : AV := .int .i64 (i : Int)
def rgAv : RG → AV
 | ⟨.mk k n s ts, keep⟩ => .agg [.int .i64 k, .int .i64 n, .str s, .slice (ts.map Tm.av), .int .i64 (keep : Int)]
theorem rgAv_mk (k n : Int) (s : ByteArray) (ts : List Tm) (keep : Nat) : rgAv ⟨.mk k n s ts, keep⟩ = .agg [.int .i64 k, .int .i64 n, .str s, .slice (ts.map Tm.av), .int .i64 (keep : Int)] := rfl
theorem rgAv_of (g : RG) : rgAv g = .agg (g.t.av.cells ++ [.int .i64 (g.keep : Int)]) := by obtain ⟨⟨k, n, s, ts⟩, keep⟩ := g; rw [Tm.av_mk]; rfl
theorem rgAv_width (g : RG) : (rgAv g).width = 5 := by obtain ⟨⟨k, n, s, ts⟩, keep⟩ := g; rfl
theorem rgAv_store (g : RG) : (rgAv g).cells.all AV.storable = true := by obtain ⟨⟨k, n, s, ts⟩, keep⟩ := g; rfl
theorem rgAv_junk (g : RG) : (rgAv g).isJunk = false := by obtain ⟨⟨k, n, s, ts⟩, keep⟩ := g; rfl
def rcAv : RC → AV
 | ⟨.mk k n s ts, rest, left, σ, N⟩ => .agg [.int .i64 k, .int .i64 n, .str s, .slice (ts.map Tm.av), .slice (rest.map rgAv), .slice (left.map nv), .slice (arrN N σ)]
theorem rcAv_width (g : RC) : (rcAv g).width = 7 := by obtain ⟨⟨k, n, s, ts⟩, _, _, _, _⟩ := g; rfl
theorem rcAv_store (g : RC) : (rcAv g).cells.all AV.storable = true := by obtain ⟨⟨k, n, s, ts⟩, _, _, _, _⟩ := g; rfl
theorem rcAv_junk (g : RC) : (rcAv g).isJunk = false := by obtain ⟨⟨k, n, s, ts⟩, _, _, _, _⟩ := g; rfl
def rsAv (s : RS) : AV := .agg [.slice (s.goals.map rgAv), .slice (arrN s.N s.σ), .slice (s.chs.map rcAv)]
abbrev tf_R1_174 := zi tI_3 (zi zI_3 (zi underlying3 (zi tI_4 (zi zI_4 (zi underlying4 (zi tI_31 (zi zI_31 (zi eI_31 (zi eB_31 (zi eZ_31 (zi underlying31 (zi tI_42 (zi zI_42 (zi fI_42_0 (zi fI_42_1 (zi fI_42_2 (zi fI_42_3 bI_42)))))))))))))))))
theorem c_l6Flat : ∀ (t : Tm) (d : Nat) (st : zy7), d ≤ 1000 → t.small = true → zq7 prog 174 [t.av, .int .i64 (d : Int)] st (fun r st' => r = .bool (t.flat d) ∧ st' = st)
 | .mk k n s ts, d, st, hd, hsm => by
  obtain ⟨hlen, hsms⟩ := Tm.small_mk hsm
  have IH := fun (x : Tm) (hx : x ∈ ts) d st h => c_l6Flat x d st h (hsms x hx)
  simp only [Tm.av_mk]
  refine wF [1000000] 2 func174 ntmps174 rfl rfl ?_
  intro _
  simp -implicitDefEqProofs only [List.length_map, evF, ↓evZ, implies_true, seval, tf_R1_174]
  refine zq4 (fun h => ?_) (fun h => ?_)
  · simp only [decide_eq_true_eq] at h
    obtain rfl : d = 0 := by omega
    simp -implicitDefEqProofs only [List.length_map, evF, ↓evZ, implies_true, seval, tf_R1_174]
    rw [Tm.flat_zero]
  simp only [decide_eq_false_iff_not] at h
  obtain ⟨e, rfl⟩ : ∃ e, d = e + 1 := ⟨d - 1, by omega⟩
  rw [Tm.flat_succ]
  have hw1 : IntKind.i64.wrap ((e : Int) + 1 - 1) = (e : Int) := by rw [wrap64 (by omega) (by omega)]; omega
  simp -implicitDefEqProofs only [List.length_map, evF, ↓evZ, implies_true, seval, tf_R1_174]
  refine zy5 (σ := Unit) [1000000] [1, 2] ts (fun i _ => ((ts.drop i).all fun t => t.flat e) = (ts.all fun t => t.flat e)) (fun i _ => [(5, .int .i64 i)]) (fun _ _ => st) (by decide +kernel) ⟨(), rfl, zx7.mk (by simp -implicitDefEqProofs only [List.length_map, evF, ↓evZ, implies_true, seval, tf_R1_174])⟩ (fun i x _ hx hlt hlt' hdr hinv => ?_) (fun _ hge hinv => ?_)
  case refine_2 =>
   simp -implicitDefEqProofs only [hge, List.length_map, evF, ↓evZ, implies_true, seval, tf_R1_174]
   rw [← hinv, List.drop_length]
   rfl
  have hw := wrap64 (n := (i : Int) + 1) (by omega) (by omega)
  rw [hdr, List.all_cons] at hinv
  simp -implicitDefEqProofs only [hlt', List.length_map, ev_at (av := Tm.av) eI_31 hx (Tm.av_width x), Tm.av_agg, Tm.av_width, hw1, evF, ↓evZ, implies_true, seval, tf_R1_174]
  refine (IH x (List.mem_of_getElem? hx) e _ (by omega)).to ?_
  simp -implicitDefEqProofs only [List.length_map, ev_at (av := Tm.av) eI_31 hx (Tm.av_width x), Tm.av_agg, Tm.av_width, hw1, evF, ↓evZ, implies_true, seval, tf_R1_174]
  refine zq4 (fun h2 => ?_) (fun h2 => ?_)
  · simp -implicitDefEqProofs only [List.length_map, ev_at (av := Tm.av) eI_31 hx (Tm.av_width x), Tm.av_agg, Tm.av_width, hw1, evF, ↓evZ, implies_true, seval, tf_R1_174]
    simp only [Bool.not_eq_true'] at h2
    rw [← hinv, h2]
    rfl
  · simp only [Bool.not_eq_false'] at h2
    rw [h2, Bool.true_and] at hinv
    simp -implicitDefEqProofs only [List.length_map, ev_at (av := Tm.av) eI_31 hx (Tm.av_width x), Tm.av_agg, Tm.av_width, hw1, evF, ↓evZ, implies_true, seval, tf_R1_174]
    exact ⟨(), hinv, zx7.mk (by simp -implicitDefEqProofs only [hw, List.length_map, ev_at (av := Tm.av) eI_31 hx (Tm.av_width x), Tm.av_agg, Tm.av_width, hw1, evF, ↓evZ, implies_true, seval, tf_R1_174])⟩
termination_by t => SizeOf.sizeOf t
decreasing_by have := List.sizeOf_lt_of_mem hx; simp only [Tm.mk.sizeOf_spec]; omega
abbrev tf_R1_140 := zi tI_3 (zi zI_3 (zi underlying3 (zi tI_4 (zi zI_4 (zi underlying4 (zi tI_31 (zi zI_31 (zi eI_31 (zi eB_31 (zi eZ_31 (zi underlying31 (zi tI_42 (zi zI_42 (zi fI_42_0 (zi fI_42_1 (zi fI_42_2 (zi fI_42_3 (zi bI_42 (zi tI_120 zI_120)))))))))))))))))))
theorem c_l6Small {N : Nat} {σ : Sub} (hg : IsGood σ) (ho : AllS (OkX N) σ) (t : Tm) (ht : OkX N t) (st : zy7) :
 zq7 prog 140 [t.av, .slice (arrN N σ)] st (fun r st' => st' = st ∧ ∃ x : Tm, r = .tup [x.av, .bool (fitT (t.mapv (rs σ)))] ∧ (fitT (t.mapv (rs σ)) = true → x = t.mapv (rs σ))) := by
 obtain ⟨rk, B, G⟩ := hg.rs
 have hfull := fun st => cI_l3Full G ho 120 t st (Nat.le_refl _) ht
 have hV := G.okVT ho.okV ht.1
 refine zq7.dropS (zq7.soft ?_)
 refine wF [1000000] 2 func140 ntmps140 rfl rfl ?_
 intro _
 simp -implicitDefEqProofs only [zy4, Tm.av_agg, Tm.av_width, Tm.av_store, Tm.av_junk, evF, ↓evZ, implies_true, seval, tf_R1_140]
 intro b4 h4
 refine (hfull _).mono ?_
 rintro _ _ ⟨rfl, x, left, rfl, h1, h2⟩
 simp -implicitDefEqProofs only [zy4, Tm.av_agg, Tm.av_width, Tm.av_store, Tm.av_junk, evF, ↓evZ, implies_true, seval, tf_R1_140]
 refine wP [(1, 1), (2, 1), (3, 1), (4, 2), (0, 1), (5, 0), (6, 1), (7, 0), (8, 1)] [1, 2, 3, 4, 0, 6, 8] mixed ?_
 simp -implicitDefEqProofs only [zy4, Tm.av_agg, Tm.av_width, Tm.av_store, Tm.av_junk, Tm.av_cells, take_all (Tm.av_cells x), agg_cells (Tm.av_agg x), Nat.le_refl, evF, ↓evZ, implies_true, seval, tf_R1_140]
 refine zx4 (fun h => ?_) (fun h => ?_)
 · have h3 : 0 ≤ left := by simpa using h
   have h4 : (t.mapv (rs σ)).nodes ≤ 120 := Classical.byContradiction fun h5 => by rw [if_neg h5] at h2; omega
   rw [if_pos h4] at h2
   obtain ⟨rfl, _⟩ := h2
   have h5 : fitT (t.mapv (rs σ)) = (t.mapv (rs σ)).flat 30 := by unfold fitT; simp [h4]
   simp -implicitDefEqProofs only [h, zy4, Tm.av_agg, Tm.av_width, Tm.av_store, Tm.av_junk, Tm.av_cells, Nat.le_refl, evF, ↓evZ, implies_true, seval, tf_R1_140]
   refine (c_l6Flat _ 30 _ (by omega) hV.small).to ?_
   simp -implicitDefEqProofs only [h, zy4, Tm.av_agg, Tm.av_width, Tm.av_store, Tm.av_junk, Tm.av_cells, Nat.le_refl, evF, ↓evZ, implies_true, seval, tf_R1_140]
   refine ⟨st, (Drops.refl _).upd ‹_›, rfl, _, by simp only [soft_agg, soft_tup, soft_int, soft_bool, soft_str, soft_slice, soft_fslice, soft_ptr, soft_pptr, soft_map, soft_mslice, Tm.soft, List.map_cons, List.map_nil]; rw [h5], fun _ => rfl⟩
 · have hx0 := trivial
   have h3 : left < 0 := by simpa using h
   have h4 : ¬ (t.mapv (rs σ)).nodes ≤ 120 := fun h5 => by rw [if_pos h5] at h2; omega
   have h5 : fitT (t.mapv (rs σ)) = false := by unfold fitT; simp [h4]
   simp -implicitDefEqProofs only [h, zy4, Tm.av_agg, Tm.av_width, Tm.av_store, Tm.av_junk, Tm.av_cells, take_all (Tm.av_cells x), agg_cells (Tm.av_agg x), Nat.le_refl, evF, ↓evZ, implies_true, seval, tf_R1_140]
   refine ⟨st, (Drops.refl _).upd ‹_›, rfl, x, by simp only [soft_agg, soft_tup, soft_int, soft_bool, soft_str, soft_slice, soft_fslice, soft_ptr, soft_pptr, soft_map, soft_mslice, Tm.soft, List.map_cons, List.map_nil]; rw [h5], fun h6 => ?_⟩
   rw [h5] at h6; cases h6
theorem frI_take (c : Cl) : frI c = (tmsVars (c.1 :: c.2) []).foldl (fun n v => if n ≤ v then v + 1 else n) 0 := rfl
abbrev tf_R1_184 := zi tI_3 (zi zI_3 (zi underlying3 (zi tI_31 (zi zI_31 (zi eI_31 (zi eB_31 (zi eZ_31 (zi underlying31 (zi tI_42 (zi zI_42 (zi fI_42_0 (zi fI_42_1 (zi fI_42_2 (zi fI_42_3 (zi bI_42 (zi tI_58 (zi zI_58 (zi eI_58 (zi eB_58 (zi eZ_58 (zi underlying58 (zi tI_75 (zi zI_75 (zi fI_75_0 (zi fI_75_1 bI_75)))))))))))))))))))))))))
theorem c_l6Fresh (c : Cl) (hc : ClX c) (h6 : c.2.length ≤ 6) (st : zy7) : zq7 prog 184 [clAv c] st (fun r st' => r = .int .i64 (frN c : Int) ∧ st' = st) := by
 have hvr := fun v => hc.vars (v := v)
 have hok := hc.okAll
 have hfr : (frN c : Int) = frI c := by
  have := (fr_fold (tmsVars (c.1 :: c.2) []) 0).1
  unfold frN frI
  omega
 rw [hfr, frI_take]
 have hnd : sumL Tm.nodes (c.1 :: c.2) ≤ 1099511627776 := by
  have : ∀ l : List Tm, (∀ t ∈ l, OkX 26 t) → sumL Tm.nodes l ≤ l.length * 120 := by
   intro l
   induction l with
   | nil => intro _; simp [sumL]
   | cons x l ih => intro h; simp only [sumL, List.length_cons]; have := ih fun y hy => h y (by simp [hy]); have := (h x (by simp)).2; omega
  have := this _ hok
  simp only [List.length_cons] at this
  omega
 have hvl := tmsVars_len (c.1 :: c.2) []
 obtain ⟨⟨k, n, s, ts⟩, bd⟩ := c
 simp only at h6 hnd hvl hvr hok
 rw [clAv_mk]
 refine zq7.done ?_
 refine wF [1000000] 1 func184 ntmps184 rfl rfl ?_
 intro _
 simp -implicitDefEqProofs only [List.length_map, evF, ↓evZ, implies_true, seval, tf_R1_184]
 refine app_lit eI_31 eB_31 eZ_31 rfl (.inl rfl) (by intro e he; simp only [List.mem_cons, List.not_mem_nil, or_false] at he; subst he; rfl) (fun e he => by simp only [List.mem_map] at he; obtain ⟨t, _, rfl⟩ := he; exact ⟨Tm.av_width _, Tm.av_store _⟩) (by simp only [List.length_cons, List.length_nil, List.length_map]; omega) (by simp only [List.length_cons, List.length_nil, List.length_map]; omega) (fun q s2 hq => ?_)
 rw [← Tm.av_mk] at hq
 rw [show [(Tm.mk k n s ts).av] ++ bd.map Tm.av = ((Tm.mk k n s ts) :: bd).map Tm.av from rfl] at hq
 simp -implicitDefEqProofs only [List.length_map, evF, ↓evZ, implies_true, seval, tf_R1_184]
 refine Lit.call hq (tm_junk _) (tm_widths _) (fun _ => rfl) ?_
 refine (c_l6Vars _ _ (fun t ht => Tm.cv_wf t (hok t ht).1.2.1) hnd).to ?_
 generalize tmsVars ((Tm.mk k n s ts) :: bd) [] = vs at *
 simp only [List.length_nil] at hvl
 simp -implicitDefEqProofs only [List.length_map, evF, ↓evZ, implies_true, seval, tf_R1_184]
 refine zy5 (σ := Int) [1000000] [2, 3] vs (fun i n => (vs.drop i).foldl (fun n v => if n ≤ v then v + 1 else n) n = vs.foldl (fun n v => if n ≤ v then v + 1 else n) 0) (fun i n => [(4, .int .i64 n), (5, .int .i64 i)]) (fun _ _ => st) (by decide +kernel) ⟨0, rfl, zx7.mk (by simp -implicitDefEqProofs only [List.length_map, evF, ↓evZ, implies_true, seval, tf_R1_184])⟩ (fun i x n hx hlt hlt' hdr hinv => ?_) (fun n hge hinv => ?_)
 case refine_2 =>
  rw [List.drop_length] at hinv
  simp -implicitDefEqProofs only [List.length_map, hge, evF, ↓evZ, implies_true, seval, tf_R1_184]
  refine ⟨?_, Drops.refl _⟩
  rw [← hinv]
  rfl
 rw [hdr, List.foldl_cons] at hinv
 have hw := wrap64 (n := (i : Int) + 1) (by omega) (by omega)
 obtain ⟨t, ht, hv⟩ := (hvr x).1 (List.mem_of_getElem? hx)
 have hx26 := (hok t ht).1.2.2 x hv
 have hw2 := wrap64 (n := x + 1) (by omega) (by omega)
 have hat : aIndexAddr prog 58 (.slice (vs.map iv)) (.int .i64 (i : Int)) = some (.pptr (.int .i64 x)) := ev_at (av := iv) eI_58 hx rfl
 simp -implicitDefEqProofs only [List.length_map, hlt', hat, hw2, hw, evF, ↓evZ, implies_true, seval, tf_R1_184]
 refine zq4 (fun h => ?_) (fun h => ?_)
 · rw [if_pos (by simpa using h)] at hinv
   simp -implicitDefEqProofs only [List.length_map, hlt', hat, hw2, hw, evF, ↓evZ, implies_true, seval, tf_R1_184]
   exact ⟨x + 1, hinv, zx7.mk (by simp -implicitDefEqProofs only [hw, List.length_map, hlt', hat, hw2, hw, evF, ↓evZ, implies_true, seval, tf_R1_184])⟩
 · rw [if_neg (by simpa using h)] at hinv
   simp -implicitDefEqProofs only [List.length_map, hlt', hat, hw2, hw, evF, ↓evZ, implies_true, seval, tf_R1_184]
   exact ⟨n, hinv, zx7.mk (by simp -implicitDefEqProofs only [hw, List.length_map, hlt', hat, hw2, hw, evF, ↓evZ, implies_true, seval, tf_R1_184])⟩
theorem sh_shf {M : Int} (m : Nat) (hm : M + m ≤ 1073741824) : ∀ t : Tm, OkV M t → t.sh (m : Int) = shf m t := by
 intro t
 induction t using Tm.ind with
 | h k n s ts ih =>
  intro h
  rw [Tm.sh_mk]
  by_cases hk : k = 1
  · subst hk
    obtain ⟨h0, h1, rfl, rfl⟩ := h.var
    unfold shf
    rw [if_pos rfl, ren_var _ (t := .mk 1 n ⟨#[]⟩ []) rfl, wrap64 (by omega) (by omega)]
    rfl
  · obtain ⟨_, h2⟩ := h.own hk
    unfold shf at ih ⊢
    rw [if_neg hk, ren_mk _ hk]
    congr 1
    exact List.map_congr_left fun x hx => ih x hx (h2 x hx)
abbrev tf_R2_139 := zi tI_3 (zi zI_3 (zi underlying3 (zi tI_31 (zi zI_31 (zi eI_31 (zi eB_31 (zi eZ_31 (zi underlying31 (zi tI_42 (zi zI_42 (zi fI_42_0 (zi fI_42_1 (zi fI_42_2 (zi fI_42_3 (zi bI_42 (zi tI_108 (zi zI_108 (zi eI_108 (zi eB_108 (zi eZ_108 (zi underlying108 (zi tI_161 (zi zI_161 (zi fI_161_0 (zi fI_161_1 bI_161)))))))))))))))))))))))))
theorem c_l6Goals (bd : List Tm) (N keep : Nat) (rest : List RG) (hb : ∀ t ∈ bd, OkX 26 t) (h6 : bd.length ≤ 6) (hN : N ≤ 1048576) (hr : rest.length ≤ 1048576) (st : zy7) :
 zq7 prog 139 [.slice (bd.map Tm.av), .int .i64 (N : Int), .int .i64 (keep : Int), .slice (rest.map rgAv)] st (fun r st' => r = .slice ((bd.map (fun t => (⟨shf N t, keep⟩ : RG)) ++ rest).map rgAv) ∧ st' = st) := by
 refine zq7.drop2 (zq7.fin ?_)
 refine wF [1000000] 4 func139 ntmps139 rfl rfl ?_
 intro _
 simp -implicitDefEqProofs only [List.length_map, evF, ↓evZ, implies_true, seval, tf_R2_139]
 refine zy5 (σ := Nat) [1000000] [0, 1, 2, 3, 8] bd (fun i b => ((bd.take i).map (fun t => (⟨shf N t, keep⟩ : RG))).map rgAv ≠ [] → st b = none) (fun i b => [(9, accV 5 b (((bd.take i).map (fun t => (⟨shf N t, keep⟩ : RG))).map rgAv)), (10, .int .i64 i)]) (fun i b => accS st b (((bd.take i).map (fun t => (⟨shf N t, keep⟩ : RG))).map rgAv)) (by decide +kernel) ⟨0, fun h => absurd rfl h, zx7.mk (by simp -implicitDefEqProofs only [List.take_zero, List.map_nil, accV_nil, accS_nil, List.length_map, evF, ↓evZ, implies_true, seval, tf_R2_139])⟩ (fun i x b hx hlt hlt' hdr hinv => ?_) (fun b hge hinv => ?_)
 case refine_1 =>
  have hw := wrap64 (n := (i : Int) + 1) (by omega) (by omega)
  have hlen' : (((bd.take i).map (fun t => (⟨shf N t, keep⟩ : RG))).map rgAv).length = i := by simp only [List.length_map, List.length_take]; omega
  have htk : (((bd.take i).map (fun t => (⟨shf N t, keep⟩ : RG))).map rgAv) ++ [rgAv ⟨shf N x, keep⟩] = (((bd.take (i + 1)).map (fun t => (⟨shf N t, keep⟩ : RG))).map rgAv) := by rw [List.take_add_one, hx]; simp
  have hxo := hb x (List.mem_of_getElem? hx)
  have hsh := sh_shf N (by omega) x hxo.1
  have hcs := c_l3Shift (N : Int) x
  rw [hsh] at hcs
  have hgo : rgAv ⟨shf N x, keep⟩ = .agg ((shf N x).av.cells ++ [.int .i64 (keep : Int)]) := rgAv_of _
  simp -implicitDefEqProofs only [hlt', List.length_map, ev_at (av := Tm.av) eI_31 hx (Tm.av_width x), Tm.av_agg, Tm.av_width, Tm.av_store, Tm.av_junk, hw, evF, ↓evZ, implies_true, seval, tf_R2_139]
  refine (hcs _ hxo.1.small).to ?_
  generalize shf N x = y at *
  obtain ⟨yk, yn, ys, yt⟩ := y
  simp only [Tm.av_mk, rgAv_mk] at htk hgo ⊢
  simp -implicitDefEqProofs only [List.length_map, ev_at (av := Tm.av) eI_31 hx (Tm.av_width x), Tm.av_agg, Tm.av_width, Tm.av_store, Tm.av_junk, hw, evF, ↓evZ, implies_true, seval, tf_R2_139]
  refine acc_append eI_108 eB_108 eZ_108 rfl rfl (by intro e he; simp only [List.mem_cons, List.not_mem_nil, or_false] at he; subst he; exact ⟨rfl, rfl⟩) (by intro e he; simp only [List.mem_map] at he; obtain ⟨t, _, rfl⟩ := he; exact rgAv_width t) hinv (by simp only [hlen', List.length_cons, List.length_nil]; omega) (by simp only [hlen', List.length_cons, List.length_nil]; omega) (fun b' hb' => ?_)
  rw [htk] at hb' ⊢
  simp -implicitDefEqProofs only [List.length_map, ev_at (av := Tm.av) eI_31 hx (Tm.av_width x), Tm.av_agg, Tm.av_width, Tm.av_store, Tm.av_junk, hw, evF, ↓evZ, implies_true, seval, tf_R2_139]
  exact ⟨b', hb', zx7.mk (by simp -implicitDefEqProofs only [hw, List.length_map, ev_at (av := Tm.av) eI_31 hx (Tm.av_width x), Tm.av_agg, Tm.av_width, Tm.av_store, Tm.av_junk, hw, evF, ↓evZ, implies_true, seval, tf_R2_139])⟩
 rw [List.take_length] at hinv ⊢
 simp -implicitDefEqProofs only [List.length_map, hge, evF, ↓evZ, implies_true, seval, tf_R2_139]
 refine acc_append (xs := rest.map rgAv) eI_108 eB_108 eZ_108 rfl rfl (by intro e he; simp only [List.mem_map] at he; obtain ⟨t, _, rfl⟩ := he; exact ⟨rgAv_width t, rgAv_store t⟩) (by intro e he; simp only [List.mem_map] at he; obtain ⟨t, _, rfl⟩ := he; exact rgAv_width t) hinv (by simp only [List.length_map]; omega) (by simp only [List.length_map]; omega) (fun b' hb' => ?_)
 rw [← List.map_append] at hb' ⊢
 simp -implicitDefEqProofs only [List.length_map, hge, evF, ↓evZ, implies_true, seval, tf_R2_139]
 exact ⟨b', _, st, rfl, hb', by intro e he; simp only [List.mem_map] at he; obtain ⟨t, _, rfl⟩ := he; exact rgAv_junk t, ⟨5, by intro e he; simp only [List.mem_map] at he; obtain ⟨t, _, rfl⟩ := he; exact rgAv_width t⟩, by rw [accV_fin], Drops.refl _⟩
def forP (p : List Cl) (t : Tm) (i : Nat) : Bool := match p[i]? with
 | some c => hdOf c t
 | none => false
theorem forL_eq (p : List Cl) (t : Tm) : forL p t = (List.range p.length).filter (forP p t) := rfl
theorem forT_step (p : List Cl) (t : Tm) (i : Nat) : (List.range (i + 1)).filter (forP p t) = (List.range i).filter (forP p t) ++ (if forP p t i = true then [i] else []) := by
 rw [List.range_succ, List.filter_append]
 congr 1
 by_cases h : forP p t i = true <;> simp [h]
theorem forT_len (p : List Cl) (t : Tm) (i : Nat) : ((List.range i).filter (forP p t)).length ≤ i := by
 have := List.length_filter_le (forP p t) (List.range i)
 rw [List.length_range] at this
 exact this
theorem nv_widths (l : List Nat) : ∀ e ∈ l.map nv, e.width = 1 := by intro e h; simp only [List.mem_map] at h; obtain ⟨t, _, rfl⟩ := h; rfl
abbrev tf_R2_130 := zi tI_3 (zi zI_3 (zi underlying3 (zi tI_9 (zi zI_9 (zi underlying9 (zi tI_29 (zi zI_29 (zi eI_29 (zi eB_29 (zi eZ_29 (zi underlying29 (zi tI_31 (zi zI_31 (zi eI_31 (zi eB_31 (zi eZ_31 (zi underlying31 (zi tI_42 (zi zI_42 (zi fI_42_0 (zi fI_42_1 (zi fI_42_2 (zi fI_42_3 (zi bI_42 (zi tI_58 (zi zI_58 (zi eI_58 (zi eB_58 (zi eZ_58 (zi underlying58 (zi tI_75 (zi zI_75 (zi fI_75_0 (zi fI_75_1 bI_75))))))))))))))))))))))))))))))))))
theorem c_l4For (p : List Cl) (t : Tm) (hp : p.length ≤ 1048576) (st : zy7) : zq7 prog 130 [.slice (p.map clAv), t.av] st (fun r st' => r = .slice ((forL p t).map nv) ∧ st' = st) := by
 rw [forL_eq]
 refine zq7.done ?_
 obtain ⟨tk, tn, ts', tts⟩ := t
 simp only [Tm.av_mk]
 refine wF [1000000] 2 func130 ntmps130 rfl rfl ?_
 intro _
 simp -implicitDefEqProofs only [List.length_map, evF, ↓evZ, implies_true, seval, tf_R2_130]
 refine zq6 (σ := Unit) [1000000] [0, 3, 4] p 1 5 (fun i _ => ((List.range i).filter (forP p (.mk tk tn ts' tts))).map nv) (fun _ _ => True) (fun i _ => [(6, .int .i64 i)]) (fun _ _ => st) (fun i _ _ e he => by simp only [List.mem_map] at he; obtain ⟨t, _, rfl⟩ := he; exact ⟨rfl, rfl⟩) (by decide +kernel) ⟨(), 0, trivial, fun h => absurd rfl h, zx7.mk (by simp -implicitDefEqProofs only [accV_nil, accS_nil, List.range_zero, List.filter_nil, List.map_nil, List.length_map, evF, ↓evZ, implies_true, seval, tf_R2_130])⟩ (fun i x s b hx hlt hlt' hdr hinv hb => ?_) (fun s b hge hinv => ?_)
 case refine_2 =>
  simp -implicitDefEqProofs only [hge, fin_agg, fin_tup, fin_int, fin_bool, fin_str, fin_slice, fin_fslice, fin_pptr, fin_ptr, fin_func, fin_map, fin_undef, fin_accV, tm_fin, List.take_length, List.length_map, evF, ↓evZ, implies_true, seval, tf_R2_130]
  exact ⟨rfl, Drops.refl _⟩
 have hw := wrap64 (n := (i : Int) + 1) (by omega) (by omega)
 have hst := forT_step p (.mk tk tn ts' tts) i
 have hln := forT_len p (.mk tk tn ts' tts) i
 have hat := ev_at (av := clAv) (P := prog) eI_29 hx (clAv_width x)
 obtain ⟨⟨k, n, s', ts⟩, bd⟩ := x
 rw [clAv_mk] at hat
 have hP : forP p (.mk tk tn ts' tts) i = (decide (s' = ts') && decide ((ts.length : Int) = (tts.length : Int))) := by unfold forP; rw [hx]; rfl
 rw [hP] at hst
 simp -implicitDefEqProofs only [hlt', List.length_map, hat, hw, evF, ↓evZ, implies_true, seval, tf_R2_130]
 refine wP [(0, 1), (1, 1), (2, 1), (3, 1), (4, 1), (6, 1), (5, 2), (7, 2), (8, 1), (9, 1), (10, 1), (11, 1), (12, 1), (13, 1), (14, 1), (17, 1), (15, 2), (16, 1), (18, 2), (19, 1), (20, 1), (21, 1)] [0, 1, 2, 3, 4, 6, 5, 7, 8, 9, 10, 11, 12, 13, 14, 17, 15, 16, 18, 19, 20, 21] mixed ?_
 simp -implicitDefEqProofs only [List.length_map, hat, hw, evF, ↓evZ, implies_true, seval, tf_R2_130]
 refine zx4 (fun h => ?_) (fun h => ?_)
 case refine_2 =>
  have h' : (decide (s' = ts') && decide ((ts.length : Int) = (tts.length : Int))) = false := by simp at h; simp [h]
  rw [h', if_neg (by simp), List.append_nil] at hst
  rw [← hst] at hb ⊢
  simp -implicitDefEqProofs only [h, List.length_map, hat, hw, evF, ↓evZ, implies_true, seval, tf_R2_130]
  exact ⟨(), b, hb, zx7.mk (by simp -implicitDefEqProofs only [hw, List.length_map, hat, hw, evF, ↓evZ, implies_true, seval, tf_R2_130])⟩
 have h1 : decide (s' = ts') = true := by simpa using h
 rw [h1, Bool.true_and] at hst
 simp -implicitDefEqProofs only [h, List.length_map, hat, hw, evF, ↓evZ, implies_true, seval, tf_R2_130]
 refine zq4 (fun h2 => ?_) (fun h2 => ?_)
 · rw [if_pos h2] at hst
   simp -implicitDefEqProofs only [List.length_map, hat, hw, evF, ↓evZ, implies_true, seval, tf_R2_130]
   refine acc_append eI_58 eB_58 eZ_58 rfl rfl (by intro e he; simp only [List.mem_cons, List.not_mem_nil, or_false] at he; subst he; exact ⟨rfl, rfl⟩) (nv_widths _) hb (by simp only [List.length_map, List.length_cons, List.length_nil]; omega) (by simp only [List.length_map, List.length_cons, List.length_nil]; omega) (fun b' hb' => ?_)
   rw [show ∀ l : List Nat, l.map nv ++ [AV.int .i64 (i : Int)] = (l ++ [i]).map nv from fun l => by simp [nv], ← hst] at hb' ⊢
   simp -implicitDefEqProofs only [List.length_map, hat, hw, evF, ↓evZ, implies_true, seval, tf_R2_130]
   exact ⟨(), b', hb', zx7.mk (by simp -implicitDefEqProofs only [hw, List.length_map, hat, hw, evF, ↓evZ, implies_true, seval, tf_R2_130])⟩
 · rw [if_neg (by simp [h2]), List.append_nil] at hst
   rw [← hst] at hb ⊢
   simp -implicitDefEqProofs only [List.length_map, hat, hw, evF, ↓evZ, implies_true, seval, tf_R2_130]
   exact ⟨(), b, hb, zx7.mk (by simp -implicitDefEqProofs only [hw, List.length_map, hat, hw, evF, ↓evZ, implies_true, seval, tf_R2_130])⟩
theorem idxI_at {n : Int} : ∀ {l : List Int}, l.Nodup → ∀ {i : Nat}, l[i]? = some n → ∀ j : Int, idxI n l j = j + i
 | [], _, i, h, j => by simp at h
 | x :: l, hd, 0, h, j => by
  simp only [List.getElem?_cons_zero, Option.some.injEq] at h
  subst h
  simp [idxI]
 | x :: l, hd, i + 1, h, j => by
  rw [List.nodup_cons] at hd
  rw [List.getElem?_cons_succ] at h
  have hm := List.mem_of_getElem? h
  simp only [idxI]
  rw [if_neg (fun e : n = x => hd.1 (e ▸ hm)), idxI_at hd.2 h (j + 1)]
  omega
abbrev tf_R2_175 := zi tI_3 (zi zI_3 (zi underlying3 (zi tI_9 (zi zI_9 (zi underlying9 (zi tI_31 (zi zI_31 (zi eI_31 (zi eB_31 (zi eZ_31 (zi underlying31 (zi tI_42 (zi zI_42 (zi fI_42_0 (zi fI_42_1 (zi fI_42_2 (zi fI_42_3 (zi bI_42 (zi tI_58 (zi zI_58 (zi eI_58 (zi eB_58 (zi eZ_58 underlying58)))))))))))))))))))))))
theorem c_l1Rename (vars : List Int) (hnd : vars.Nodup) (hvl : vars.length ≤ 1048576) : ∀ (t : Tm) (st : zy7), t.small = true → t.cv = true → (∀ v ∈ t.vl, v ∈ vars) → zq7 prog 175 [t.av, .slice (vars.map iv)] st (fun r st' => r = (t.mapv fun v => vr (idxI v vars 0)).av ∧ st' = st)
 | .mk k n s ts, st, hsm, hcv, hin => by
  obtain ⟨hlen, hsms⟩ := Tm.small_mk hsm
  obtain ⟨hc1, hcs⟩ := Tm.cv_mk.1 hcv
  have IH := fun (x : Tm) (hx : x ∈ ts) st => c_l1Rename vars hnd hvl x st (hsms x hx) (hcs x hx) (fun v hv => by
   by_cases hk : k = 1
   · rw [(hc1 hk).2] at hx; cases hx
   · exact hin v ((Tm.vl_mk hk).2 ⟨x, hx, hv⟩))
  generalize hg : (Tm.mapv fun v => vr (idxI v vars 0)) = g at IH
  refine zq7.drop2 (zq7.fin ?_)
  simp only [Tm.av_mk]
  refine wF [1000000, 5] 2 func175 ntmps175 rfl rfl ?_
  intro _
  simp -implicitDefEqProofs only [zy4, evF, ↓evZ, implies_true, seval, tf_R2_175]
  intro b4 h4 c hc
  have hne : c ≠ b4 := by rintro rfl; rw [zy7.upd_same] at hc; cases hc
  have hnc : st c = none := by rw [zy7.upd_ne st _ hne] at hc; exact hc
  have hidx : ∀ i : Nat, vars[i]? = some n → idxI n vars 0 = (i : Int) := fun i hi => by
   have := idxI_at hnd hi 0
   omega
  generalize hW : st.upd b4 (.cells [AV.int .i64 0, AV.int .i64 0, AV.str ⟨#[]⟩, AV.fslice []]) = W
  have hWc : W c = none := by rw [← hW]; exact hc
  have hW4 : W b4 = some (.cells [AV.int .i64 0, AV.int .i64 0, AV.str ⟨#[]⟩, AV.fslice []]) := by rw [← hW]; exact zy7.upd_same _ _ _
  have hS : W b4 ≠ none := by rw [hW4]; simp
  have hb4c : b4 ≠ c := Ne.symm hne
  refine zw5 (σ := Nat × Int) [1000000, 5] [1, 2, 4, 5] (fun p => p.1 ≤ vars.length ∧ (k ≠ 1 → p.2 = n) ∧ (k = 1 → (n ∈ vars.take p.1 → p.2 = idxI n vars 0))) (fun p => [(6, .int .i64 p.1)]) (fun p => W.upd c (.cells [.int .i64 k, .int .i64 p.2, .str s, .fslice []])) (fun p => vars.length - p.1) (by decide +kernel) ⟨(0, n), ⟨Nat.zero_le _, fun _ => rfl, fun _ h => by simp at h⟩, zx7.mk (by simp -implicitDefEqProofs only [zy4, evF, ↓evZ, implies_true, seval, tf_R2_175])⟩ ?_
  rintro ⟨i, n'⟩ ⟨h1, h2, h3⟩
  simp only at h1 h2 h3
  have rest : (k = 1 → n' = idxI n vars 0) → True := fun _ => trivial
  simp -implicitDefEqProofs only [zy4, hne, hb4c, List.length_map, evF, ↓evZ, implies_true, seval, tf_R2_175]
  have fin : (k = 1 → n' = idxI n vars 0) → g (.mk k n s ts) = .mk k n' s (ts.map g) := fun h4 => by
   rw [← hg]
   by_cases hk : k = 1
   · obtain ⟨rfl, rfl⟩ := hc1 hk
     rw [Tm.mapv_var _ hk, h4 hk, hk]; rfl
   · rw [Tm.mapv_mk _ hk, h2 hk]
  refine zx4 (fun h => ?_) (fun h => ?_)
  case refine_2 =>
   have h4 : (k = 1 → n' = idxI n vars 0) := fun hk => h3 hk (by
    have : i = vars.length := by simp at h; omega
    rw [this, List.take_length]
    exact hin n (by rw [Tm.vl_var hk]; simp))
   simp -implicitDefEqProofs only [h, zy4, hne, hb4c, List.length_map, evF, ↓evZ, implies_true, seval, tf_R2_175]
   refine zy5 (σ := Nat) [1000000, 5] [1, 2, 4, 5] ts (fun i b => (((ts.take i).map g).map Tm.av ≠ [] → (zy7.upd W c (.cells ([AV.int .i64 k, AV.int .i64 (n'), AV.str s] ++ [accV 4 b (((ts.take i).map g).map Tm.av)]))) b = none)) (fun i b => [(7, .int .i64 i)]) (fun i b => kidS W c b [AV.int .i64 k, AV.int .i64 (n'), AV.str s] (((ts.take i).map g).map Tm.av)) (by decide +kernel)
    ⟨0, fun h => absurd rfl h, zx7.mk (by simp -implicitDefEqProofs only [List.length_map, zy4, hne, hb4c, List.length_map, evF, ↓evZ, implies_true, seval, tf_R2_175])⟩ (fun i x b hx hlt hlt' hdr hinv => ?_) (fun b hge hinv => ?_)
   case refine_1 =>
    have hw := wrap64 (n := (i : Int) + 1) (by omega) (by omega)
    have hlen' : (((ts.take i).map g).map Tm.av).length = i := by simp only [List.length_map, List.length_take]; omega
    have htk : (ts.take (i + 1)).map g = (ts.take i).map g ++ [g x] := by rw [List.take_add_one, hx]; simp
    have hbo := kidS_c hinv
    simp -implicitDefEqProofs only [List.length_map, hlt', zy4, hne, hb4c, List.length_map, evF, ↓evZ, implies_true, seval, tf_R2_175]
    refine wP [(0, 1), (2, 1), (4, 1), (7, 1), (1, 2), (3, 2), (5, 1), (6, 2), (8, 2), (9, 1), (10, 0), (11, 1), (12, 0)] [0, 2, 4, 7, 1, 3, 5, 6, 8, 9, 11] mixed ?_
    simp -implicitDefEqProofs only [ev_at (av := Tm.av) eI_31 hx (Tm.av_width x), Tm.av_agg, Tm.av_width, hbo, accV_agg, accV_width, zy4, hne, hb4c, List.length_map, evF, ↓evZ, implies_true, seval, tf_R2_175]
    refine zw4 (IH x (List.mem_of_getElem? hx) _) ?_
    simp -implicitDefEqProofs only [Tm.av_agg, Tm.av_width, Tm.av_junk, hbo, accV_agg, accV_width, zy4, hne, hb4c, List.length_map, evF, ↓evZ, implies_true, seval, tf_R2_175]
    refine acc_append eI_31 eB_31 eZ_31 rfl rfl (by intro e he; simp only [List.mem_cons, List.not_mem_nil, or_false] at he; subst he; exact ⟨Tm.av_width _, Tm.av_store _⟩) (tm_widths _) hinv (by simp only [hlen', List.length_cons, List.length_nil]; omega) (by simp only [hlen', List.length_cons, List.length_nil]; omega) (fun b' hb' => ?_)
    rw [show (((ts.take i).map g).map Tm.av) ++ [(g x).av] = ((ts.take (i + 1)).map g).map Tm.av by rw [htk]; simp] at hb' ⊢
    obtain ⟨g1, g2, g3⟩ := kidS_set hb'
    simp only [List.cons_append, List.nil_append] at g1 g3
    simp -implicitDefEqProofs only [g3, accV_cells, accV_store, zy4, Nat.le_refl, g1, hw, zy4, hne, hb4c, List.length_map, evF, ↓evZ, implies_true, seval, tf_R2_175]
    exact ⟨b', g2, zx7.mk (by simp -implicitDefEqProofs only [zy4, hne, hb4c, List.length_map, evF, ↓evZ, implies_true, seval, tf_R2_175])⟩
   have hbo := kidS_c hinv
   rw [List.take_length] at hinv hbo ⊢
   simp -implicitDefEqProofs only [List.length_map, hge, zy4, hne, hb4c, List.length_map, evF, ↓evZ, implies_true, seval, tf_R2_175]
   simp -implicitDefEqProofs only [hbo, zy4, hne, hb4c, List.length_map, evF, ↓evZ, implies_true, seval, tf_R2_175]
   have g1 := kidS_ne hinv hS hb4c
   rw [hW4] at g1
   simp -implicitDefEqProofs only [g1, accV_store, accV_cells, zy4, Nat.le_refl, zy4, hne, hb4c, List.length_map, evF, ↓evZ, implies_true, seval, tf_R2_175]
   obtain ⟨g2, g3⟩ := kidS_upd (o := .cells [AV.int .i64 k, AV.int .i64 (n'), AV.str s, accV 4 b ((ts.map g).map Tm.av)]) hinv hS hb4c
   refine ⟨b, _, _, g2, g3, tm_junk _, ⟨4, tm_widths _⟩, ?_, fun x => ?_⟩
   · simp only [fin_agg, List.map_cons, List.map_nil, fin_int, fin_str, accV_fin, ← Tm.av_mk]
     rw [fin h4]
   · subst hW
     by_cases e3 : x = b4 <;> by_cases e4 : x = c <;> simp_all [zy7.upd]
  have hlt : i < vars.length := by simpa using h
  simp -implicitDefEqProofs only [h, zy4, hne, hb4c, List.length_map, evF, ↓evZ, implies_true, seval, tf_R2_175]
  refine zq4 (fun h5 => ?_) (fun h5 => ?_)
  case refine_2 =>
   have h5' : k ≠ 1 := by simpa using h5
   have h4 : (k = 1 → n' = idxI n vars 0) := fun hk => absurd hk h5'
   simp -implicitDefEqProofs only [zy4, hne, hb4c, List.length_map, evF, ↓evZ, implies_true, seval, tf_R2_175]
   refine zy5 (σ := Nat) [1000000, 5] [1, 2, 4, 5] ts (fun i b => (((ts.take i).map g).map Tm.av ≠ [] → (zy7.upd W c (.cells ([AV.int .i64 k, AV.int .i64 (n'), AV.str s] ++ [accV 4 b (((ts.take i).map g).map Tm.av)]))) b = none)) (fun i b => [(7, .int .i64 i)]) (fun i b => kidS W c b [AV.int .i64 k, AV.int .i64 (n'), AV.str s] (((ts.take i).map g).map Tm.av)) (by decide +kernel)
    ⟨0, fun h => absurd rfl h, zx7.mk (by simp -implicitDefEqProofs only [List.length_map, zy4, hne, hb4c, List.length_map, evF, ↓evZ, implies_true, seval, tf_R2_175])⟩ (fun i x b hx hlt hlt' hdr hinv => ?_) (fun b hge hinv => ?_)
   case refine_1 =>
    have hw := wrap64 (n := (i : Int) + 1) (by omega) (by omega)
    have hlen' : (((ts.take i).map g).map Tm.av).length = i := by simp only [List.length_map, List.length_take]; omega
    have htk : (ts.take (i + 1)).map g = (ts.take i).map g ++ [g x] := by rw [List.take_add_one, hx]; simp
    have hbo := kidS_c hinv
    simp -implicitDefEqProofs only [List.length_map, hlt', zy4, hne, hb4c, List.length_map, evF, ↓evZ, implies_true, seval, tf_R2_175]
    refine wP [(0, 1), (2, 1), (4, 1), (7, 1), (1, 2), (3, 2), (5, 1), (6, 2), (8, 2), (9, 1), (10, 0), (11, 1), (12, 0)] [0, 2, 4, 7, 1, 3, 5, 6, 8, 9, 11] mixed ?_
    simp -implicitDefEqProofs only [ev_at (av := Tm.av) eI_31 hx (Tm.av_width x), Tm.av_agg, Tm.av_width, hbo, accV_agg, accV_width, zy4, hne, hb4c, List.length_map, evF, ↓evZ, implies_true, seval, tf_R2_175]
    refine zw4 (IH x (List.mem_of_getElem? hx) _) ?_
    simp -implicitDefEqProofs only [Tm.av_agg, Tm.av_width, Tm.av_junk, hbo, accV_agg, accV_width, zy4, hne, hb4c, List.length_map, evF, ↓evZ, implies_true, seval, tf_R2_175]
    refine acc_append eI_31 eB_31 eZ_31 rfl rfl (by intro e he; simp only [List.mem_cons, List.not_mem_nil, or_false] at he; subst he; exact ⟨Tm.av_width _, Tm.av_store _⟩) (tm_widths _) hinv (by simp only [hlen', List.length_cons, List.length_nil]; omega) (by simp only [hlen', List.length_cons, List.length_nil]; omega) (fun b' hb' => ?_)
    rw [show (((ts.take i).map g).map Tm.av) ++ [(g x).av] = ((ts.take (i + 1)).map g).map Tm.av by rw [htk]; simp] at hb' ⊢
    obtain ⟨g1, g2, g3⟩ := kidS_set hb'
    simp only [List.cons_append, List.nil_append] at g1 g3
    simp -implicitDefEqProofs only [g3, accV_cells, accV_store, zy4, Nat.le_refl, g1, hw, zy4, hne, hb4c, List.length_map, evF, ↓evZ, implies_true, seval, tf_R2_175]
    exact ⟨b', g2, zx7.mk (by simp -implicitDefEqProofs only [zy4, hne, hb4c, List.length_map, evF, ↓evZ, implies_true, seval, tf_R2_175])⟩
   have hbo := kidS_c hinv
   rw [List.take_length] at hinv hbo ⊢
   simp -implicitDefEqProofs only [List.length_map, hge, zy4, hne, hb4c, List.length_map, evF, ↓evZ, implies_true, seval, tf_R2_175]
   simp -implicitDefEqProofs only [hbo, zy4, hne, hb4c, List.length_map, evF, ↓evZ, implies_true, seval, tf_R2_175]
   have g1 := kidS_ne hinv hS hb4c
   rw [hW4] at g1
   simp -implicitDefEqProofs only [g1, accV_store, accV_cells, zy4, Nat.le_refl, zy4, hne, hb4c, List.length_map, evF, ↓evZ, implies_true, seval, tf_R2_175]
   obtain ⟨g2, g3⟩ := kidS_upd (o := .cells [AV.int .i64 k, AV.int .i64 (n'), AV.str s, accV 4 b ((ts.map g).map Tm.av)]) hinv hS hb4c
   refine ⟨b, _, _, g2, g3, tm_junk _, ⟨4, tm_widths _⟩, ?_, fun x => ?_⟩
   · simp only [fin_agg, List.map_cons, List.map_nil, fin_int, fin_str, accV_fin, ← Tm.av_mk]
     rw [fin h4]
   · subst hW
     by_cases e3 : x = b4 <;> by_cases e4 : x = c <;> simp_all [zy7.upd]
  have hk : k = 1 := by simpa using h5
  obtain ⟨x, hx⟩ : ∃ x, vars[i]? = some x := ⟨_, List.getElem?_eq_getElem hlt⟩
  have hat : aIndexAddr prog 58 (.slice (vars.map iv)) (.int .i64 (i : Int)) = some (.pptr (.int .i64 x)) := ev_at (av := iv) eI_58 hx rfl
  have hw := wrap64 (n := (i : Int) + 1) (by omega) (by omega)
  have htk : vars.take (i + 1) = vars.take i ++ [x] := by rw [List.take_add_one, hx]; rfl
  simp -implicitDefEqProofs only [zy4, hne, hb4c, List.length_map, hat, hw, evF, ↓evZ, implies_true, seval, tf_R2_175]
  refine wP [(0, 1), (1, 1), (2, 1), (4, 1), (3, 2), (5, 2), (6, 1)] [0, 1, 2, 4, 3, 5, 6] mixed ?_
  simp -implicitDefEqProofs only [zy4, hne, hb4c, List.length_map, hat, hw, evF, ↓evZ, implies_true, seval, tf_R2_175]
  refine zq4 (fun h6 => ?_) (fun h6 => ?_)
  · have h6' : x = n := by simpa using h6
    subst h6'
    simp -implicitDefEqProofs only [zy4, hne, hb4c, List.length_map, hat, hw, evF, ↓evZ, implies_true, seval, tf_R2_175]
    refine ⟨(i + 1, (i : Int)), by simp only; omega, ⟨hlt, fun h => absurd hk h, fun _ _ => (hidx i hx).symm⟩, zx7.mk (by simp -implicitDefEqProofs only [zy4, hne, hb4c, List.length_map, hat, hw, evF, ↓evZ, implies_true, seval, tf_R2_175])⟩
  · have h6' : x ≠ n := by simpa using h6
    simp -implicitDefEqProofs only [zy4, hne, hb4c, List.length_map, hat, hw, evF, ↓evZ, implies_true, seval, tf_R2_175]
    refine ⟨(i + 1, n'), by simp only; omega, ⟨hlt, h2, fun hk hm => h3 hk ?_⟩, zx7.mk (by simp -implicitDefEqProofs only [zy4, hne, hb4c, List.length_map, hat, hw, evF, ↓evZ, implies_true, seval, tf_R2_175])⟩
    rw [htk, List.mem_append] at hm
    rcases hm with hm | hm
    · exact hm
    · simp only [List.mem_cons, List.not_mem_nil, or_false] at hm
      exact absurd hm.symm h6'
termination_by t => SizeOf.sizeOf t
decreasing_by have := List.sizeOf_lt_of_mem hx; simp only [Tm.mk.sizeOf_spec]; omega
theorem tmsVars_nodup : ∀ (ts : List Tm) (l : List Int), (∀ t ∈ ts, t.wf = true) → l.Nodup → (tmsVars ts l).Nodup
 | [], l, _, h => h
 | t :: ts, l, hw, h => tmsVars_nodup ts _ (fun x hx => hw x (by simp [hx])) ((vars_spec t (hw t (by simp)) l).2.1 h)
theorem nodes_120 : ∀ l : List Tm, (∀ t ∈ l, t.nodes ≤ 120) → sumL Tm.nodes l ≤ l.length * 120
 | [], _ => by simp [sumL]
 | x :: l, h => by
  simp only [sumL, List.length_cons]
  have := nodes_120 l fun y hy => h y (by simp [hy])
  have := h x (by simp)
  omega
abbrev tf_R3_141 := zi tI_3 (zi zI_3 (zi underlying3 (zi tI_31 (zi zI_31 (zi eI_31 (zi eB_31 (zi eZ_31 (zi underlying31 (zi tI_42 (zi zI_42 (zi fI_42_0 (zi fI_42_1 (zi fI_42_2 (zi fI_42_3 (zi bI_42 (zi tI_58 (zi zI_58 (zi eI_58 (zi eB_58 (zi eZ_58 underlying58))))))))))))))))))))
theorem c_l1Renumber {N : Int} (l : List Tm) (hok : ∀ t ∈ l, OkX N t) (hl : l.length ≤ 1000) (st : zy7) : zq7 prog 141 [.slice (l.map Tm.av)] st (fun r st' => r = .slice ((renumL l).map Tm.av) ∧ st' = st) := by
 have hnd := nodes_120 l fun t ht => (hok t ht).2
 have hdup := tmsVars_nodup l [] (fun t ht => Tm.cv_wf t (hok t ht).1.2.1) List.nodup_nil
 have hmem := fun v => tmsVars_mem (v := v) l [] fun t ht => (hok t ht).1.2.1
 have hvl := tmsVars_len l []
 simp only [List.length_nil] at hvl
 refine zq7.done ?_
 refine wF [1000000] 1 func141 ntmps141 rfl rfl ?_
 intro _
 simp -implicitDefEqProofs only [List.length_map, evF, ↓evZ, implies_true, seval, tf_R3_141]
 refine zq6 (σ := Unit) [1000000] [0, 2] l 1 3 (fun i _ => (tmsVars (l.take i) []).map iv) (fun _ _ => True) (fun i _ => [(4, .int .i64 i)]) (fun _ _ => st) (fun i _ _ e he => by simp only [List.mem_map] at he; obtain ⟨t, _, rfl⟩ := he; exact ⟨rfl, rfl⟩) (by decide +kernel) ⟨(), 0, trivial, fun h => absurd rfl h, zx7.mk (by simp -implicitDefEqProofs only [accV_nil, accS_nil, List.take_zero, tmsVars, List.map_nil, List.length_map, evF, ↓evZ, implies_true, seval, tf_R3_141])⟩ (fun i x s b hx hlt hlt' hdr hinv hb => ?_) (fun s b hge hinv => ?_)
 case refine_1 =>
  have hw := wrap64 (n := (i : Int) + 1) (by omega) (by omega)
  have hat := ev_at (av := Tm.av) eI_31 hx (Tm.av_width x)
  have hst := sumL_take Tm.nodes hx
  have hvl := tmsVars_len (l.take i) []
  simp only [List.length_nil, Nat.zero_add] at hvl
  have htk : x.vars (tmsVars (l.take i) []) = tmsVars (l.take (i + 1)) [] := by
   rw [List.take_add_one, hx, tmsVars_app]
   rfl
  simp -implicitDefEqProofs only [hlt', List.length_map, hat, Tm.av_agg, Tm.av_width, Tm.av_store, Tm.av_junk, evF, ↓evZ, implies_true, seval, tf_R3_141]
  refine (c_l1Vars x (tmsVars (l.take i) []) b st (Tm.cv_wf x (hok x (List.mem_of_getElem? hx)).1.2.1) hb (by omega)).mono ?_
  rintro _ _ ⟨b', rfl, rfl, hb'⟩
  rw [htk] at hb' ⊢
  simp -implicitDefEqProofs only [List.length_map, hat, Tm.av_agg, Tm.av_width, Tm.av_store, Tm.av_junk, evF, ↓evZ, implies_true, seval, tf_R3_141]
  exact ⟨(), b', hb', zx7.mk (by simp -implicitDefEqProofs only [hw, List.length_map, hat, Tm.av_agg, Tm.av_width, Tm.av_store, Tm.av_junk, evF, ↓evZ, implies_true, seval, tf_R3_141])⟩
 simp -implicitDefEqProofs only [hge, fin_agg, fin_tup, fin_int, fin_bool, fin_str, fin_slice, fin_fslice, fin_pptr, fin_ptr, fin_func, fin_map, fin_undef, fin_accV, tm_fin, List.take_length, List.length_map, evF, ↓evZ, implies_true, seval, tf_R3_141]
 have hR : renumL l = l.map fun t => t.mapv fun v => vr (idxI v (tmsVars l []) 0) := rfl
 rw [hR]
 generalize tmsVars l [] = vars at *
 refine zq6 (σ := Unit) [1000000] [0, 2, 3] l 4 5 (fun i _ => ((l.take i).map fun t => t.mapv fun v => vr (idxI v vars 0)).map Tm.av) (fun _ _ => True) (fun i _ => [(6, .int .i64 i)]) (fun _ _ => st) (fun i _ _ e he => by simp only [List.mem_map] at he; obtain ⟨t, _, rfl⟩ := he; exact ⟨Tm.av_junk _, Tm.av_width _⟩) (by decide +kernel) ⟨(), 0, trivial, fun h => absurd rfl h, zx7.mk (by simp -implicitDefEqProofs only [accV_nil, accS_nil, List.take_zero, List.map_nil, List.length_map, evF, ↓evZ, implies_true, seval, tf_R3_141])⟩ (fun i x s b hx hlt hlt' hdr hinv hb => ?_) (fun s b hge hinv => ?_)
 case refine_2 =>
  simp -implicitDefEqProofs only [hge, fin_agg, fin_tup, fin_int, fin_bool, fin_str, fin_slice, fin_fslice, fin_pptr, fin_ptr, fin_func, fin_map, fin_undef, fin_accV, tm_fin, List.take_length, List.length_map, evF, ↓evZ, implies_true, seval, tf_R3_141]
  exact ⟨rfl, Drops.refl _⟩
 have hw := wrap64 (n := (i : Int) + 1) (by omega) (by omega)
 have hat := ev_at (av := Tm.av) eI_31 hx (Tm.av_width x)
 have hxm := List.mem_of_getElem? hx
 have hlen' : (((l.take i).map fun t => t.mapv fun v => vr (idxI v vars 0)).map Tm.av).length = i := by simp only [List.length_map, List.length_take]; omega
 simp -implicitDefEqProofs only [hlt', List.length_map, hat, Tm.av_agg, Tm.av_width, Tm.av_store, Tm.av_junk, evF, ↓evZ, implies_true, seval, tf_R3_141]
 refine (c_l1Rename vars hdup (by omega) x _ (hok x hxm).1.small (hok x hxm).1.2.1 (fun v hv => (hmem v).2 (.inr ⟨x, hxm, hv⟩))).to ?_
 simp -implicitDefEqProofs only [List.length_map, hat, Tm.av_agg, Tm.av_width, Tm.av_store, Tm.av_junk, evF, ↓evZ, implies_true, seval, tf_R3_141]
 refine acc_append eI_31 eB_31 eZ_31 rfl rfl (by intro e he; simp only [List.mem_cons, List.not_mem_nil, or_false] at he; subst he; exact ⟨Tm.av_width _, Tm.av_store _⟩) (tm_widths _) hb (by simp only [hlen', List.length_cons, List.length_nil]; omega) (by simp only [hlen', List.length_cons, List.length_nil]; omega) (fun b' hb' => ?_)
 rw [show (((l.take i).map fun t => t.mapv fun v => vr (idxI v vars 0)).map Tm.av) ++ [(x.mapv fun v => vr (idxI v vars 0)).av] = ((l.take (i + 1)).map fun t => t.mapv fun v => vr (idxI v vars 0)).map Tm.av by rw [List.take_add_one, hx]; simp] at hb' ⊢
 simp -implicitDefEqProofs only [List.length_map, hat, Tm.av_agg, Tm.av_width, Tm.av_store, Tm.av_junk, evF, ↓evZ, implies_true, seval, tf_R3_141]
 exact ⟨(), b', hb', zx7.mk (by simp -implicitDefEqProofs only [hw, List.length_map, hat, Tm.av_agg, Tm.av_width, Tm.av_store, Tm.av_junk, evF, ↓evZ, implies_true, seval, tf_R3_141])⟩
abbrev tf_R3_142 := zi tI_3 (zi zI_3 (zi underlying3 (zi tI_4 (zi zI_4 (zi underlying4 (zi tI_31 (zi zI_31 (zi eI_31 (zi eB_31 (zi eZ_31 (zi underlying31 (zi tI_42 (zi zI_42 (zi fI_42_0 (zi fI_42_1 (zi fI_42_2 (zi fI_42_3 bI_42)))))))))))))))))
theorem c_l1All (l : List Tm) (st : zy7) : zq7 prog 142 [.slice (l.map Tm.av)] st (fun r st' => r = .bool (l.all Tm.valid) ∧ st' = st) := by
 refine wF [1000000] 1 func142 ntmps142 rfl rfl ?_
 simp only [fitsL, AV.fits, and_true, List.length_map]
 intro ⟨hl, _⟩
 simp -implicitDefEqProofs only [List.length_map, evF, ↓evZ, implies_true, seval, tf_R3_142]
 refine zy5 (σ := Unit) [1000000] [0] l (fun i _ => ((l.drop i).all Tm.valid) = (l.all Tm.valid)) (fun i _ => [(3, .int .i64 i)]) (fun _ _ => st) (by decide +kernel) ⟨(), rfl, zx7.mk (by simp -implicitDefEqProofs only [List.length_map, evF, ↓evZ, implies_true, seval, tf_R3_142])⟩ (fun i x _ hx hlt hlt' hdr hinv => ?_) (fun _ hge hinv => ?_)
 case refine_2 =>
  simp -implicitDefEqProofs only [hge, List.length_map, evF, ↓evZ, implies_true, seval, tf_R3_142]
  rw [← hinv, List.drop_length]
  rfl
 have hw := wrap64 (n := (i : Int) + 1) (by omega) (by omega)
 rw [hdr, List.all_cons] at hinv
 simp -implicitDefEqProofs only [hlt', List.length_map, ev_at (av := Tm.av) eI_31 hx (Tm.av_width x), Tm.av_agg, Tm.av_width, evF, ↓evZ, implies_true, seval, tf_R3_142]
 refine (c_spec_TermValid x _).to ?_
 simp -implicitDefEqProofs only [List.length_map, ev_at (av := Tm.av) eI_31 hx (Tm.av_width x), Tm.av_agg, Tm.av_width, evF, ↓evZ, implies_true, seval, tf_R3_142]
 refine zq4 (fun h2 => ?_) (fun h2 => ?_)
 · simp -implicitDefEqProofs only [List.length_map, ev_at (av := Tm.av) eI_31 hx (Tm.av_width x), Tm.av_agg, Tm.av_width, evF, ↓evZ, implies_true, seval, tf_R3_142]
   simp only [Bool.not_eq_true'] at h2
   rw [← hinv, h2]
   rfl
 · simp only [Bool.not_eq_false'] at h2
   rw [h2, Bool.true_and] at hinv
   simp -implicitDefEqProofs only [List.length_map, ev_at (av := Tm.av) eI_31 hx (Tm.av_width x), Tm.av_agg, Tm.av_width, evF, ↓evZ, implies_true, seval, tf_R3_142]
   exact ⟨(), hinv, zx7.mk (by simp -implicitDefEqProofs only [hw, List.length_map, ev_at (av := Tm.av) eI_31 hx (Tm.av_width x), Tm.av_agg, Tm.av_width, evF, ↓evZ, implies_true, seval, tf_R3_142])⟩
theorem idxI_bound (v : Int) : ∀ (l : List Int) (i : Int), v ∈ l → i ≤ idxI v l i ∧ idxI v l i < i + l.length
 | [], i, h => by cases h
 | x :: l, i, h => by
  simp only [idxI, List.length_cons]
  split
  · omega
  · rename_i e
    have h' : v ∈ l := by
     rcases List.mem_cons.1 h with h | h
     · exact absurd h e
     · exact h
    have := idxI_bound v l (i + 1) h'
    omega
theorem renumL_valid {N : Int} {l : List Tm} (hok : ∀ t ∈ l, OkX N t) (hf : l.all fitT = true) : (renumL l).all Tm.valid = decide ((tmsVars l []).length ≤ 26) := by
 have hmem := fun v => tmsVars_mem (v := v) l [] fun t ht => (hok t ht).1.2.1
 have hdup := tmsVars_nodup l [] (fun t ht => Tm.cv_wf t (hok t ht).1.2.1) List.nodup_nil
 have hro : ∀ t ∈ l, OkV (tmsVars l []).length (t.mapv fun v => vr (idxI v (tmsVars l []) 0)) := fun t ht =>
  (hok t ht).1.mapv fun v hv => by
   have := idxI_bound v (tmsVars l []) 0 ((hmem v).2 (.inr ⟨t, ht, hv⟩))
   exact okV_vr (by omega) (by omega)
 have hfit : ∀ t ∈ l, fitT (t.mapv fun v => vr (idxI v (tmsVars l []) 0)) = true := fun t ht => by
  have := List.all_eq_true.1 hf t ht
  unfold fitT at this ⊢
  rw [show (t.mapv fun v => vr (idxI v (tmsVars l []) 0)) = ren (fun v => idxI v (tmsVars l []) 0) t from rfl, ren_flat _ (hok t ht).1.2.1, ren_nodes _ (hok t ht).1.2.1]
  exact this
 rw [Bool.eq_iff_iff, List.all_eq_true, decide_eq_true_eq]
 constructor
 · intro h
   refine Classical.byContradiction fun hn => ?_
   obtain ⟨w, hw⟩ : ∃ w, (tmsVars l [])[26]? = some w := ⟨_, List.getElem?_eq_getElem (by omega)⟩
   rcases (hmem w).1 (List.mem_of_getElem? hw) with h1 | ⟨t, ht, hv⟩
   · cases h1
   · have hval := h _ (List.mem_map.2 ⟨t, ht, rfl⟩)
     have hin := (Tm.valid_okV hval).2.2 26 ((vl_mapv t).2 ⟨w, hv, by rw [idxI_at hdup hw 0, vl_vr]; simp⟩)
     omega
 · intro h x hx
   obtain ⟨t, ht, rfl⟩ := List.mem_map.1 hx
   have h1 := okV_26.2 ((hro t ht).mono (show ((tmsVars l []).length : Int) ≤ 26 by omega))
   rw [Tm.valid_iff h1]
   exact hfit t ht
theorem renumL_one_ok {N : Int} {l : List Tm} (hok : ∀ t ∈ l, OkX N t) : (renumL l).length = l.length := by unfold renumL; rw [List.length_map]
abbrev tf_R3_91 := zi tI_3 (zi zI_3 (zi underlying3 (zi tI_4 (zi zI_4 (zi underlying4 (zi tI_31 (zi zI_31 (zi eI_31 (zi eB_31 (zi eZ_31 (zi underlying31 (zi tI_42 (zi zI_42 (zi fI_42_0 (zi fI_42_1 (zi fI_42_2 (zi fI_42_3 (zi bI_42 (zi tI_51 (zi zI_51 (zi fI_51_0 (zi bI_51 (zi tI_58 (zi zI_58 (zi eI_58 (zi eB_58 (zi eZ_58 underlying58)))))))))))))))))))))))))))
theorem c_l6Answer {N : Nat} {σ : Sub} (hg : IsGood σ) (ho : AllS (OkX N) σ) (vars : List Int) (hv : ∀ v ∈ vars, 0 ≤ v ∧ v < (N : Int)) (hl : vars.length ≤ 1000) (st : zy7) :
 zq7 prog 91 [.slice (vars.map iv), .slice (arrN N σ)] st (fun r st' => st' = st ∧ ∃ a, r = .tup [ansAv a, .bool (ansR σ vars).isSome] ∧ ∀ x, ansR σ vars = some x → a = x) := by
 obtain ⟨rk, B, G⟩ := hg.rs
 refine zq7.dropS (zq7.soft ?_)
 refine wF [1000000] 2 func91 ntmps91 rfl rfl ?_
 intro _
 simp -implicitDefEqProofs only [zy4, List.length_map, evF, ↓evZ, implies_true, seval, tf_R3_91]
 intro b4 h4
 refine zq6 (σ := Unit) [1000000] [0, 1, 4] vars 4 6 (fun i _ => ((vars.take i).map (rs σ)).map Tm.av) (fun i _ => ((vars.take i).map (rs σ)).all fitT = true) (fun i _ => [(5, .bool false), (7, .int .i64 i)]) (fun _ _ => st.upd b4 (.cells [.fslice []])) (fun i _ _ e he => by simp only [List.mem_map] at he; obtain ⟨t, _, rfl⟩ := he; exact ⟨Tm.av_junk _, Tm.av_width _⟩) (by decide +kernel) ⟨(), 0, rfl, fun h => absurd rfl h, zx7.mk (by simp -implicitDefEqProofs only [accV_nil, accS_nil, List.take_zero, List.map_nil, zy4, List.length_map, evF, ↓evZ, implies_true, seval, tf_R3_91])⟩ (fun i x s b hx hlt hlt' hdr hinv hb => ?_) (fun s b hge hinv => ?_)
 · have hw := wrap64 (n := (i : Int) + 1) (by omega) (by omega)
   have hxm := List.mem_of_getElem? hx
   obtain ⟨hx0, hx1⟩ := hv x hxm
   have hvr : OkX N (vr x) := ⟨okV_vr hx0 hx1, by rw [vr, Tm.nodes_mk]; simp [sumL]⟩
   have hat : aIndexAddr prog 58 (.slice (vars.map iv)) (.int .i64 (i : Int)) = some (.pptr (.int .i64 x)) := ev_at (av := iv) eI_58 hx rfl
   have hlen' : (((vars.take i).map (rs σ)).map Tm.av).length = i := by simp only [List.length_map, List.length_take]; omega
   have hall : ((vars.take (i + 1)).map (rs σ)).all fitT = fitT (rs σ x) := by
    rw [List.take_add_one, hx]
    simp only [Option.toList_some, List.map_append, List.map_cons, List.map_nil, List.all_append, hinv, List.all_cons, List.all_nil, Bool.and_true, Bool.true_and]
   simp -implicitDefEqProofs only [hlt', zy4, List.length_map, hat, Tm.av_agg, Tm.av_width, Tm.av_store, Tm.av_junk, hw, evF, ↓evZ, implies_true, seval, tf_R3_91]
   refine (c_l1Var x _).to ?_
   simp -implicitDefEqProofs only [zy4, List.length_map, hat, Tm.av_agg, Tm.av_width, Tm.av_store, Tm.av_junk, hw, evF, ↓evZ, implies_true, seval, tf_R3_91]
   refine (c_l6Small hg ho (vr x) hvr _).mono ?_
   rintro _ _ ⟨rfl, y, rfl, hy⟩
   rw [mapv_vr] at hy ⊢
   simp -implicitDefEqProofs only [zy4, List.length_map, hat, Tm.av_agg, Tm.av_width, Tm.av_store, Tm.av_junk, hw, evF, ↓evZ, implies_true, seval, tf_R3_91]
   refine zq4 (fun h => ?_) (fun h => ?_)
   · have h' : fitT (rs σ x) = false := by simpa using h
     have hans : ansR σ vars = none := by
      unfold ansR
      rw [if_neg]
      rintro ⟨h1, _⟩
      have := List.all_eq_true.1 h1 _ (List.mem_map.2 ⟨x, hxm, rfl⟩)
      rw [h'] at this; cases this
     have hbo : ∀ l, (l ≠ [] → st b = none) → (l ≠ [] → b ≠ b4) → (accS (st.upd b4 (.cells [.fslice []])) b l) b4 = some (.cells [.fslice []]) := fun l _ h2 => by
      cases l with
      | nil => exact zy7.upd_same _ _ _
      | cons e l => simp only [accS]; rw [zy7.upd_ne _ _ (Ne.symm (h2 (by simp)))]; exact zy7.upd_same _ _ _
     have hnb : ((vars.take i).map (rs σ)).map Tm.av ≠ [] → b ≠ b4 := fun h => by rintro rfl; have := hb h; rw [zy7.upd_same] at this; cases this
     have hnb2 : ((vars.take i).map (rs σ)).map Tm.av ≠ [] → st b = none := fun h => by have := hb h; rw [zy7.upd_ne _ _ (hnb h)] at this; exact this
     have e1 := hbo _ hnb2 hnb
     simp -implicitDefEqProofs only [zy4, e1, evF, ↓evZ, implies_true, seval, tf_R3_91]
     rw [hans]
     refine ⟨st, ?_, rfl, [], rfl, fun x h => by cases h⟩
     intro z
     by_cases hz : z = b4
     · subst hz; simp [zy7.upd, h4]
     · rw [zy7.upd_ne _ _ hz]
       exact ((Drops.accS (Drops.refl _) hb).trans ((Drops.refl st).upd h4)) z
   · have h' : fitT (rs σ x) = true := by simpa using h
     obtain rfl := hy h'
     simp -implicitDefEqProofs only [zy4, List.length_map, hat, Tm.av_agg, Tm.av_width, Tm.av_store, Tm.av_junk, hw, evF, ↓evZ, implies_true, seval, tf_R3_91]
     refine acc_append eI_31 eB_31 eZ_31 rfl rfl (by intro e he; simp only [List.mem_cons, List.not_mem_nil, or_false] at he; subst he; exact ⟨Tm.av_width _, Tm.av_store _⟩) (tm_widths _) hb (by simp only [hlen', List.length_cons, List.length_nil]; omega) (by simp only [hlen', List.length_cons, List.length_nil]; omega) (fun b' hb' => ?_)
     rw [show (((vars.take i).map (rs σ)).map Tm.av) ++ [(rs σ x).av] = ((vars.take (i + 1)).map (rs σ)).map Tm.av by rw [List.take_add_one, hx]; simp] at hb' ⊢
     simp -implicitDefEqProofs only [zy4, List.length_map, hat, Tm.av_agg, Tm.av_width, Tm.av_store, Tm.av_junk, hw, evF, ↓evZ, implies_true, seval, tf_R3_91]
     exact ⟨(), b', by rw [hall]; exact h', hb', zx7.mk (by simp -implicitDefEqProofs only [hw, zy4, List.length_map, hat, Tm.av_agg, Tm.av_width, Tm.av_store, Tm.av_junk, hw, evF, ↓evZ, implies_true, seval, tf_R3_91])⟩
 · rw [List.take_length] at hinv
   have hok : ∀ t ∈ vars.map (rs σ), OkX N t := fun t ht => by
    obtain ⟨v, h, rfl⟩ := List.mem_map.1 ht
    obtain ⟨h0, h1⟩ := hv v h
    have hf := List.all_eq_true.1 hinv _ ht
    unfold fitT at hf
    simp only [Bool.and_eq_true, decide_eq_true_eq] at hf
    exact ⟨G.okV ho.okV v h0 h1, hf.2⟩
   have hval := renumL_valid hok hinv
   have hans : ansR σ vars = if (tmsVars (vars.map (rs σ)) []).length ≤ 26 then some (renumL (vars.map (rs σ))) else none := by
    unfold ansR
    simp only [hinv, true_and]
   have hren := fun st => c_l1Renumber _ hok (by rw [List.length_map]; exact hl) st
   have hall := fun st => c_l1All (renumL (vars.map (rs σ))) st
   rw [hval] at hall
   generalize renumL (vars.map (rs σ)) = R at *
   generalize (tmsVars (vars.map (rs σ)) []).length = m at *
   simp -implicitDefEqProofs only [hge, fin_agg, fin_tup, fin_int, fin_bool, fin_str, fin_slice, fin_fslice, fin_pptr, fin_ptr, fin_func, fin_map, fin_undef, fin_accV, tm_fin, List.take_length, finL, zy4, List.length_map, evF, ↓evZ, implies_true, seval, tf_R3_91]
   refine (hren _).to ?_
   simp -implicitDefEqProofs only [zy4, List.length_map, evF, ↓evZ, implies_true, seval, tf_R3_91]
   refine wP [(1, 1), (0, 2), (2, 2), (3, 2), (4, 0), (5, 1)] [1, 0, 2, 3, 5] mixed ?_
   simp -implicitDefEqProofs only [zy4, List.length_map, evF, ↓evZ, implies_true, seval, tf_R3_91]
   refine zw4 (hall _) ?_
   simp -implicitDefEqProofs only [zy4, List.length_map, evF, ↓evZ, implies_true, seval, tf_R3_91]
   refine ⟨st, (Drops.refl _).upd h4, rfl, R, ?_, fun x h => ?_⟩
   · rw [hans]
     simp only [soft_agg, soft_tup, soft_int, soft_bool, soft_str, soft_slice, soft_fslice, soft_ptr, soft_pptr, soft_map, soft_mslice, Tm.soft, List.map_cons, List.map_nil]
     by_cases h : m ≤ 26
     · simp [h]
     · simp [h]
   · rw [hans] at h
     split at h
     · cases h; rfl
     · cases h
end Go.AW
