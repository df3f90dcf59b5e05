import Derived.Test.YtcndknlbedcimaaGreatDoorSeqi
import Derived.Test.YtcndknlbedcimaaGreatDoorSeqf
set_option linter.unusedSimpArgs false
set_option linter.unusedVariables false
set_option maxRecDepth 100000
namespace Go.AW
open Go.Proofs.Tryz
abbrev tf_V6_66 := zi tI_3 (zi zI_3 (zi underlying3 (zi tI_45 (zi zI_45 (zi eI_45 (zi eB_45 (zi eZ_45 (zi underlying45 (zi tI_95 (zi zI_95 (zi fI_95_0 (zi fI_95_1 bI_95))))))))))))
theorem c_IndexFuncBd (l : List Bd) (g : FuncId) (caps : List AV) (p : Bd → Bool) (st : zy7) (hc : ∀ x ∈ l, zq7 prog g ([bdAv x] ++ caps) st (fun r st' => r = .bool (p x) ∧ st' = st)) :
 zq7 prog 66 [.slice (l.map bdAv), .func g caps] st (fun r st' => r = .int .i64 (idxP p l 0) ∧ st' = st) := by
 refine wF [1000000] 2 func66 ntmps66 rfl rfl ?_
 simp only [fitsL, AV.fits, and_true, List.length_map]
 intro ⟨hl, _⟩
 simp -implicitDefEqProofs only [List.length_map, evF, ↓evZ, implies_true, seval, tf_V6_66]
 refine zy5 (σ := Unit) [1000000] [0, 1, 7] l (fun i _ => idxP p (l.drop i) i = idxP p l 0) (fun i _ => [(8, .int .i64 i)]) (fun _ _ => st) (by decide +kernel) ⟨(), rfl, zx7.mk (by simp -implicitDefEqProofs only [evF, ↓evZ, implies_true, seval, tf_V6_66])⟩ (fun i x _ hx hlt hlt' hdr hinv => ?_) (fun _ hge hinv => ?_)
 case refine_2 =>
  simp -implicitDefEqProofs only [List.length_map, hge, evF, ↓evZ, implies_true, seval, tf_V6_66]
  rw [← hinv, List.drop_length]
  rfl
 rw [hdr, idxP] at hinv
 have hw := wrap64 (n := (i : Int) + 1) (by omega) (by omega)
 simp -implicitDefEqProofs only [List.length_map, hlt', ev_at (av := bdAv) eI_45 hx (bdAv_width x), bdAv_agg, bdAv_width, evF, ↓evZ, implies_true, seval, tf_V6_66]
 refine (hc x (List.mem_of_getElem? hx)).to ?_
 simp -implicitDefEqProofs only [evF, ↓evZ, implies_true, seval, tf_V6_66]
 refine zq4 (fun h => ?_) (fun h => ?_)
 · rw [if_pos h] at hinv
   simp -implicitDefEqProofs only [hinv, evF, ↓evZ, implies_true, seval, tf_V6_66]
 · rw [if_neg (by simp [h])] at hinv
   simp -implicitDefEqProofs only [evF, ↓evZ, implies_true, seval, tf_V6_66]
   exact ⟨(), by rw [← hinv], zx7.mk (by simp -implicitDefEqProofs only [hw, evF, ↓evZ, implies_true, seval, tf_V6_66])⟩
abbrev tf_V6_62 := zi tI_3 (zi zI_3 (zi underlying3 (zi tI_4 (zi zI_4 (zi underlying4 (zi tI_45 (zi zI_45 (zi eI_45 (zi eB_45 (zi eZ_45 underlying45))))))))))
theorem c_ContainsFuncBd (l : List Bd) (g : FuncId) (caps : List AV) (p : Bd → Bool) (st : zy7) (hc : ∀ x ∈ l, zq7 prog g ([bdAv x] ++ caps) st (fun r st' => r = .bool (p x) ∧ st' = st)) :
 zq7 prog 62 [.slice (l.map bdAv), .func g caps] st (fun r st' => r = .bool (l.any p) ∧ st' = st) := by
 refine wF [1000000] 2 func62 ntmps62 rfl rfl ?_
 intro _
 simp -implicitDefEqProofs only [evF, ↓evZ, implies_true, seval, tf_V6_62]
 refine (c_IndexFuncBd l g caps p st hc).to ?_
 simp -implicitDefEqProofs only [idxP_any, evF, ↓evZ, implies_true, seval, tf_V6_62]
abbrev tf_V6_68 := zi tI_3 (zi zI_3 (zi underlying3 (zi tI_42 (zi zI_42 (zi fI_42_0 (zi fI_42_1 (zi fI_42_2 (zi fI_42_3 bI_42))))))))
theorem c_variable (n : Int) (st : zy7) : zq7 prog 68 [.int .i64 n] st (fun r st' => r = (vr n).av ∧ st' = st) := by
 refine zq7.done ?_
 refine wF [1000000] 1 func68 ntmps68 rfl rfl ?_
 intro _
 simp -implicitDefEqProofs only [evF, ↓evZ, implies_true, seval, tf_V6_68]
 intro b hb
 simp -implicitDefEqProofs only [zy4, evF, ↓evZ, implies_true, seval, tf_V6_68]
 exact ⟨by simp only [vr, Tm.av_mk, soft_agg, soft_tup, soft_int, soft_bool, soft_str, soft_slice, soft_fslice, soft_ptr, soft_pptr, soft_map, soft_mslice, Tm.soft, List.map_cons, List.map_nil, List.map_nil], (Drops.refl _).upd hb⟩
abbrev tf_V6_67 := zi tI_3 (zi zI_3 (zi underlying3 (zi tI_4 (zi zI_4 (zi underlying4 (zi tI_95 (zi zI_95 (zi fI_95_0 (zi fI_95_1 bI_95)))))))))
theorem c_ApplyBinds_2_1 (b : Bd) (n : Int) (st : zy7) : zq7 prog 67 [bdAv b, .pptr (.int .i64 n)] st (fun r st' => r = .bool (decide (b.1 = n)) ∧ st' = st) := by
 refine wF [1000000] 2 func67 ntmps67 rfl rfl ?_
 intro _
 unfold bdAv
 simp -implicitDefEqProofs only [evF, ↓evZ, implies_true, seval, tf_V6_67]
abbrev tf_V6_65 := zi tI_3 (zi zI_3 (zi underlying3 (zi tI_42 (zi zI_42 (zi fI_42_0 (zi fI_42_1 (zi fI_42_2 (zi fI_42_3 (zi bI_42 (zi tI_45 (zi zI_45 (zi eI_45 (zi eB_45 (zi eZ_45 (zi underlying45 (zi tI_67 (zi zI_67 (zi fI_67_0 (zi fI_67_1 (zi fI_67_2 (zi fI_67_3 (zi bI_67 (zi tI_95 (zi zI_95 (zi fI_95_0 (zi fI_95_1 bI_95))))))))))))))))))))))))))
theorem c_ApplyBinds_2 (bs : List Bd) (n : Int) (st : zy7) : zq7 prog 65 [.int .i64 n, .pptr (.slice (bs.map bdAv))] st (fun r st' => r = (subB bs n).av ∧ st' = st) := by
 refine zq7.done ?_
 refine wF [1000000] 2 func65 ntmps65 rfl rfl ?_
 intro _
 simp -implicitDefEqProofs only [evF, ↓evZ, implies_true, seval, tf_V6_65]
 intro b hb
 refine (c_IndexFuncBd bs _ _ (fun b => decide (b.1 = n)) _ fun x _ => c_ApplyBinds_2_1 x n _).to ?_
 rcases findB_idx bs n with ⟨h1, h2⟩ | ⟨j, x, h1, h2, h3⟩
 · rw [h1]
   simp -implicitDefEqProofs only [show decide ((-1 : Int) < 0) = true from rfl, evF, ↓evZ, implies_true, seval, tf_V6_65]
   refine (c_variable n _).to ?_
   simp -implicitDefEqProofs only [evF, ↓evZ, implies_true, seval, tf_V6_65]
   exact ⟨by rw [Tm.soft, subB, h2]; rfl, (Drops.refl _).upd hb⟩
 · rw [h1]
   have hbd : ∀ x : Bd, bdAv x = .agg (.int .i64 x.1 :: x.2.av.cells) := fun _ => rfl
   simp -implicitDefEqProofs only [show decide ((j : Int) < 0) = false by simp, ev_at (av := bdAv) eI_45 h2 (bdAv_width x), hbd, bdAv_width x, evF, ↓evZ, implies_true, seval, tf_V6_65]
   exact ⟨by rw [Tm.soft, subB, h3]; rfl, (Drops.refl _).upd hb⟩
abbrev tf_V6_63 := zi tI_4 (zi zI_4 (zi underlying4 (zi tI_42 (zi zI_42 (zi fI_42_0 (zi fI_42_1 (zi fI_42_2 (zi fI_42_3 (zi bI_42 (zi tI_95 (zi zI_95 (zi fI_95_0 (zi fI_95_1 bI_95)))))))))))))
theorem c_ApplyBinds_1 (b : Bd) (st : zy7) : zq7 prog 63 [bdAv b] st (fun r st' => r = .bool (!b.2.valid) ∧ st' = st) := by
 refine wF [1000000] 1 func63 ntmps63 rfl rfl ?_
 intro _
 unfold bdAv
 simp -implicitDefEqProofs only [evF, ↓evZ, implies_true, seval, tf_V6_63]
 refine (c_impl_TermValid b.2 st).to ?_
 simp -implicitDefEqProofs only [evF, ↓evZ, implies_true, seval, tf_V6_63]
abbrev tf_V6_57 := zi tI_3 (zi zI_3 (zi underlying3 (zi tI_31 (zi zI_31 (zi eI_31 (zi eB_31 (zi eZ_31 (zi underlying31 (zi tI_42 (zi zI_42 (zi fI_42_0 (zi fI_42_1 (zi fI_42_2 (zi fI_42_3 bI_42))))))))))))))
theorem c_mapVars (f : Int → Tm) (g : FuncId) (caps : List AV) (hcap : zq1 caps = true) : ∀ (t : Tm) (st : zy7), t.small = true → (∀ n ∈ t.vl, ∀ s, zq7 prog g (.int .i64 n :: caps) s (fun r s' => r = (f n).av ∧ s' = s)) →
 zq7 prog 57 [t.av, .func g caps] st (fun r st' => r = (t.mapv f).av ∧ st' = st)
 | .mk k n s ts, st, hsm, hg => by
  obtain ⟨hlen, hsms⟩ := Tm.small_mk hsm
  have IH := fun (x : Tm) (hx : x ∈ ts) st h => c_mapVars f g caps hcap x st (hsms x hx) h
  refine zq7.drop2 (zq7.fin ?_)
  simp only [Tm.av_mk]
  refine wF [1000000, 2] 2 func57 ntmps57 rfl rfl ?_
  simp only [fitsL, AV.fits, and_true, List.length_map]
  intro ⟨_, _, _, hl, _⟩
  simp -implicitDefEqProofs only [evF, ↓evZ, implies_true, seval, tf_V6_57]
  intro c hc b2 hb2
  have hne : b2 ≠ c := by rintro rfl; rw [zy7.upd_same] at hb2; cases hb2
  have hn2 : st b2 = none := by rw [zy7.upd_ne st _ hne] at hb2; exact hb2
  simp -implicitDefEqProofs only [hne, hne.symm, evF, ↓evZ, implies_true, seval, tf_V6_57]
  refine zq4 (fun h => ?_) (fun h => ?_)
  · simp only [decide_eq_true_eq] at h
    subst h
    simp -implicitDefEqProofs only [hne, hne.symm, evF, ↓evZ, implies_true, seval, tf_V6_57]
    refine (hg n (by rw [Tm.vl_var rfl]; simp) _).to ?_
    simp -implicitDefEqProofs only [hne, hne.symm, evF, ↓evZ, implies_true, seval, tf_V6_57]
    refine ⟨0, [], _, rfl, by simp, by simp, ⟨4, by simp⟩, by rw [Tm.fin0, Tm.mapv_var f rfl], ?_⟩
    exact ((Drops.refl _).upd hc).upd hn2
  simp only [decide_eq_false_iff_not] at h
  have hg' : ∀ x ∈ ts, ∀ v ∈ x.vl, ∀ s, zq7 prog g (.int .i64 v :: caps) s (fun r s' => r = (f v).av ∧ s' = s) := fun x hx v hv => hg v ((Tm.vl_mk h).2 ⟨x, hx, hv⟩)
  simp -implicitDefEqProofs only [hne, hne.symm, zy4, List.length_map, evF, ↓evZ, implies_true, seval, tf_V6_57]
  rw [zy7.upd_mid hne]
  refine zy5 (σ := Nat) [1000000] [1, 2, 4, 18, 19] ts (fun i b => (((ts.take i).map (Tm.mapv f)).map Tm.av ≠ [] → (zy7.upd (st.upd b2 (.cells [AV.int .i64 0, AV.int .i64 0, AV.str ⟨#[]⟩, AV.fslice []])) c (.cells ([AV.int .i64 k, AV.int .i64 n, AV.str s] ++ [accV 4 b (((ts.take i).map (Tm.mapv f)).map Tm.av)]))) b = none)) (fun i b => [(20, .int .i64 i)]) (fun i b => kidS (st.upd b2 (.cells [AV.int .i64 0, AV.int .i64 0, AV.str ⟨#[]⟩, AV.fslice []])) c b [AV.int .i64 k, AV.int .i64 n, AV.str s] (((ts.take i).map (Tm.mapv f)).map Tm.av)) (by decide +kernel)
   ⟨0, fun h => absurd rfl h, zx7.mk (by simp -implicitDefEqProofs only [List.length_map, evF, ↓evZ, implies_true, seval, tf_V6_57])⟩ (fun i x b hx hlt hlt' hdr hinv => ?_) (fun b hge hinv => ?_)
  case refine_1 =>
   have hw := wrap64 (n := (i : Int) + 1) (by omega) (by omega)
   have hlen' : (((ts.take i).map (Tm.mapv f)).map Tm.av).length = i := by simp only [List.length_map, List.length_take]; omega
   have htk : (ts.take (i + 1)).map (Tm.mapv f) = (ts.take i).map (Tm.mapv f) ++ [(Tm.mapv f) x] := by rw [List.take_add_one, hx]; simp
   have hbo := kidS_c hinv
   simp -implicitDefEqProofs only [List.length_map, hlt', ev_at (av := Tm.av) eI_31 hx (Tm.av_width x), hne, evF, ↓evZ, implies_true, seval, tf_V6_57]
   refine wP [(0, 1), (3, 1), (1, 2), (2, 2), (4, 2), (5, 1), (6, 0), (7, 1), (8, 0)] [0, 3, 1, 2, 4, 5, 7] mixed ?_
   simp -implicitDefEqProofs only [ev_at (av := Tm.av) eI_31 hx (Tm.av_width x), Tm.av_agg, Tm.av_width, hbo, accV_agg, accV_width, hne, evF, ↓evZ, implies_true, seval, tf_V6_57]
   refine zw4 (IH x (List.mem_of_getElem? hx) _ (hg' x (List.mem_of_getElem? hx))) ?_
   simp -implicitDefEqProofs only [Tm.av_agg, Tm.av_width, Tm.av_junk, hbo, accV_agg, accV_width, hne, evF, ↓evZ, implies_true, seval, tf_V6_57]
   refine acc_append eI_31 eB_31 eZ_31 rfl rfl (by intro e he; simp only [List.mem_cons, List.not_mem_nil, or_false] at he; subst he; exact ⟨Tm.av_width _, Tm.av_store _⟩) (tm_widths _) hinv (by simp only [hlen', List.length_cons, List.length_nil]; omega) (by simp only [hlen', List.length_cons, List.length_nil]; omega) (fun b' hb' => ?_)
   rw [show (((ts.take i).map (Tm.mapv f)).map Tm.av) ++ [((Tm.mapv f) x).av] = ((ts.take (i + 1)).map (Tm.mapv f)).map Tm.av by rw [htk]; simp] at hb' ⊢
   obtain ⟨g1, g2, g3⟩ := kidS_set hb'
   simp only [List.cons_append, List.nil_append] at g1 g3
   simp -implicitDefEqProofs only [g3, accV_cells, accV_store, zy4, Nat.le_refl, g1, hw, evF, ↓evZ, implies_true, seval, tf_V6_57]
   exact ⟨b', g2, zx7.mk (by simp -implicitDefEqProofs only [evF, ↓evZ, implies_true, seval, tf_V6_57])⟩
  have hbo := kidS_c hinv
  rw [List.take_length] at hinv hbo ⊢
  simp -implicitDefEqProofs only [List.length_map, hge, evF, ↓evZ, implies_true, seval, tf_V6_57]
  simp -implicitDefEqProofs only [hbo, evF, ↓evZ, implies_true, seval, tf_V6_57]
  have hS : (st.upd b2 (.cells [AV.int .i64 0, AV.int .i64 0, AV.str ⟨#[]⟩, AV.fslice []])) b2 ≠ none := by rw [zy7.upd_same]; simp
  have h1 := kidS_ne hinv hS hne
  rw [zy7.upd_same] at h1
  simp -implicitDefEqProofs only [h1, accV_store, accV_cells, zy4, Nat.le_refl, evF, ↓evZ, implies_true, seval, tf_V6_57]
  obtain ⟨h2, h3⟩ := kidS_upd (o := .cells [AV.int .i64 k, AV.int .i64 n, AV.str s, accV 4 b ((ts.map (Tm.mapv f)).map Tm.av)]) hinv hS hne
  refine ⟨b, _, _, h2, h3, tm_junk _, ⟨4, tm_widths _⟩, ?_, ?_⟩
  · rw [Tm.mapv_mk f h]
    simp only [fin_agg, List.map_cons, List.map_nil, fin_int, fin_str, accV_fin, Tm.av_mk]
  · exact (((Drops.refl _).upd hn2).upd hc).upd hn2
termination_by t => SizeOf.sizeOf t
decreasing_by have := List.sizeOf_lt_of_mem hx; simp only [Tm.mk.sizeOf_spec]; omega
def optAv : Option Tm → AV
 | some t => .tup [t.av, .bool true]
 | none => .tup [Tm.zero.av, .bool false]
abbrev tf_V7_153 := zi tI_3 (zi zI_3 (zi underlying3 (zi tI_4 (zi zI_4 (zi underlying4 (zi tI_42 (zi zI_42 (zi fI_42_0 (zi fI_42_1 (zi fI_42_2 (zi fI_42_3 (zi bI_42 (zi tI_45 (zi zI_45 (zi eI_45 (zi eB_45 (zi eZ_45 (zi underlying45 (zi tI_95 (zi zI_95 (zi fI_95_0 (zi fI_95_1 bI_95))))))))))))))))))))))
theorem c_l3Find (bs : List Bd) (n : Int) (st : zy7) : zq7 prog 153 [.slice (bs.map bdAv), .int .i64 n] st (fun r st' => r = optAv (findB bs n) ∧ st' = st) := by
 refine zq7.done ?_
 refine wF [1000000] 2 func153 ntmps153 rfl rfl ?_
 simp only [fitsL, AV.fits, and_true, List.length_map]
 intro ⟨hl, _⟩
 simp -implicitDefEqProofs only [zy4, List.length_map, evF, ↓evZ, implies_true, seval, tf_V7_153]
 intro b hb
 refine zy5 (σ := Unit) [1000000] [0, 1, 4] bs (fun i _ => findB (bs.drop i) n = findB bs n) (fun i _ => [(6, .int .i64 i)]) (fun _ _ => st.upd b (.cells [.int .i64 0, .int .i64 0, .str ⟨#[]⟩, .fslice []])) (by decide +kernel) ⟨(), rfl, zx7.mk (by simp -implicitDefEqProofs only [zy4, List.length_map, evF, ↓evZ, implies_true, seval, tf_V7_153])⟩ (fun i x _ hx hlt hlt' hdr hinv => ?_) (fun _ hge hinv => ?_)
 case refine_2 =>
  simp -implicitDefEqProofs only [List.length_map, hge, zy4, List.length_map, evF, ↓evZ, implies_true, seval, tf_V7_153]
  rw [List.drop_length] at hinv
  rw [← hinv]
  exact ⟨by simp only [findB, optAv, Tm.zero, Tm.av_mk, soft_agg, soft_tup, soft_int, soft_bool, soft_str, soft_slice, soft_fslice, soft_ptr, soft_pptr, soft_map, soft_mslice, Tm.soft, List.map_cons, List.map_nil], (Drops.refl _).upd hb⟩
 obtain ⟨m, t⟩ := x
 rw [hdr] at hinv
 simp only [findB] at hinv
 have hw := wrap64 (n := (i : Int) + 1) (by omega) (by omega)
 have hat := ev_at (av := bdAv) eI_45 hx (bdAv_width _)
 have hbd : bdAv (m, t) = .agg (.int .i64 m :: t.av.cells) := rfl
 simp -implicitDefEqProofs only [hlt', zy4, List.length_map, hat, hbd, bdAv_width, evF, ↓evZ, implies_true, seval, tf_V7_153]
 refine zq4 (fun h => ?_) (fun h => ?_)
 · simp only [decide_eq_true_eq] at h
   rw [if_pos h] at hinv
   simp -implicitDefEqProofs only [zy4, List.length_map, hat, hbd, bdAv_width, evF, ↓evZ, implies_true, seval, tf_V7_153]
   rw [← hinv]
   exact ⟨by simp only [optAv, soft_agg, soft_tup, soft_int, soft_bool, soft_str, soft_slice, soft_fslice, soft_ptr, soft_pptr, soft_map, soft_mslice, Tm.soft, List.map_cons, List.map_nil], (Drops.refl _).upd hb⟩
 · simp only [decide_eq_false_iff_not] at h
   rw [if_neg h] at hinv
   simp -implicitDefEqProofs only [zy4, List.length_map, hat, hbd, bdAv_width, evF, ↓evZ, implies_true, seval, tf_V7_153]
   exact ⟨(), hinv, zx7.mk (by simp -implicitDefEqProofs only [hw, zy4, List.length_map, hat, hbd, bdAv_width, evF, ↓evZ, implies_true, seval, tf_V7_153])⟩
theorem l3_none {k n : Int} {s : ByteArray} {ts : List Tm} {bs : List Bd} (h : k = 1) (hs : s = ⟨#[]⟩) (hts : ts = []) (hf : findB bs n = none) : (Tm.mk k n s (ts.map (Tm.mapv (subB bs)))).av = ((Tm.mk k n s ts).mapv (subB bs)).av := by
 rw [Tm.mapv_var _ h, subB, hf, h, hs, hts]
 rfl
abbrev tf_V7_99 := zi tI_3 (zi zI_3 (zi underlying3 (zi tI_9 (zi zI_9 (zi underlying9 (zi tI_31 (zi zI_31 (zi eI_31 (zi eB_31 (zi eZ_31 (zi underlying31 (zi tI_42 (zi zI_42 (zi fI_42_0 (zi fI_42_1 (zi fI_42_2 (zi fI_42_3 (zi bI_42 (zi tI_45 (zi zI_45 (zi eI_45 (zi eB_45 (zi eZ_45 underlying45)))))))))))))))))))))))
theorem c_l3Apply (bs : List Bd) (hbs : ∀ b ∈ bs, b.2.small = true) : ∀ (t : Tm) (st : zy7), t.small = true → t.cv = true →
 zq7 prog 99 [t.av, .slice (bs.map bdAv)] st (fun r st' => r = (t.mapv (subB bs)).av ∧ st' = st)
 | .mk k n s ts, st, hsm, hcv => by
  obtain ⟨hlen, hsms⟩ := Tm.small_mk hsm
  obtain ⟨hk1, hcvs⟩ := Tm.cv_mk.1 hcv
  have IH := fun (x : Tm) (hx : x ∈ ts) st => c_l3Apply bs hbs x st (hsms x hx) (hcvs x hx)
  have hfs : ∀ (l : List Bd) x, (∀ b ∈ l, b.2.small = true) → findB l n = some x → x.small = true := by
   intro l
   induction l with
   | nil => intro x _ h; cases h
   | cons y l ih =>
    obtain ⟨m, t⟩ := y
    intro x hl h
    simp only [findB] at h
    split at h
    · cases h; exact hl (m, _) (by simp)
    · exact ih x (fun b hb => hl b (by simp [hb])) h
  refine zq7.drop2 (zq7.fin ?_)
  simp only [Tm.av_mk]
  refine wF [1000000, 7] 2 func99 ntmps99 rfl rfl ?_
  simp only [fitsL, AV.fits, and_true, List.length_map]
  intro ⟨⟨_, _, _, hl, _⟩, _⟩
  simp -implicitDefEqProofs only [evF, ↓evZ, implies_true, seval, tf_V7_99]
  intro b2 hb2
  refine zq4 (fun h => ?_) (fun h => ?_)
  · simp only [decide_eq_true_eq] at h
    obtain ⟨hs0, hts0⟩ := hk1 h
    simp -implicitDefEqProofs only [evF, ↓evZ, implies_true, seval, tf_V7_99]
    refine (c_l3Find bs n _).to ?_
    cases hf : findB bs n with
    | some x =>
     simp -implicitDefEqProofs only [optAv, evF, ↓evZ, implies_true, seval, tf_V7_99]
     refine (c_l1Copy x _ (hfs bs x hbs hf)).to ?_
     simp -implicitDefEqProofs only [evF, ↓evZ, implies_true, seval, tf_V7_99]
     refine ⟨0, [], _, rfl, by simp, by simp, ⟨4, by simp⟩, by rw [Tm.fin0, Tm.mapv_var _ h, subB, hf]; rfl, (Drops.refl _).upd hb2⟩
    | none =>
     simp -implicitDefEqProofs only [optAv, evF, ↓evZ, implies_true, seval, tf_V7_99]
     intro c hc
     have hne : c ≠ b2 := by rintro rfl; rw [zy7.upd_same] at hc; cases hc
     have hn2 : st c = none := by rw [zy7.upd_ne st _ hne] at hc; exact hc
     have hb2c : b2 ≠ c := Ne.symm hne
     have hS : (st.upd b2 (.cells [AV.int .i64 0, AV.int .i64 0, AV.str ⟨#[]⟩, AV.fslice []])) b2 ≠ none := by rw [zy7.upd_same]; simp
     refine zy5 (σ := Nat) [1000000] [1, 2, 4, 7] ts (fun i b => (((ts.take i).map (Tm.mapv (subB bs))).map Tm.av ≠ [] → (zy7.upd (st.upd b2 (.cells [AV.int .i64 0, AV.int .i64 0, AV.str ⟨#[]⟩, AV.fslice []])) c (.cells ([AV.int .i64 k, AV.int .i64 n, AV.str s] ++ [accV 4 b (((ts.take i).map (Tm.mapv (subB bs))).map Tm.av)]))) b = none)) (fun i b => [(8, .int .i64 i)]) (fun i b => kidS (st.upd b2 (.cells [AV.int .i64 0, AV.int .i64 0, AV.str ⟨#[]⟩, AV.fslice []])) c b [AV.int .i64 k, AV.int .i64 n, AV.str s] (((ts.take i).map (Tm.mapv (subB bs))).map Tm.av)) (by decide +kernel)
      ⟨0, fun h => absurd rfl h, zx7.mk (by simp -implicitDefEqProofs only [List.length_map, evF, ↓evZ, implies_true, seval, tf_V7_99])⟩ (fun i x b hx hlt hlt' hdr hinv => ?_) (fun b hge hinv => ?_)
     case refine_1 =>
      have hw := wrap64 (n := (i : Int) + 1) (by omega) (by omega)
      have hlen' : (((ts.take i).map (Tm.mapv (subB bs))).map Tm.av).length = i := by simp only [List.length_map, List.length_take]; omega
      have htk : (ts.take (i + 1)).map (Tm.mapv (subB bs)) = (ts.take i).map (Tm.mapv (subB bs)) ++ [(Tm.mapv (subB bs)) x] := by rw [List.take_add_one, hx]; simp
      have hbo := kidS_c hinv
      simp -implicitDefEqProofs only [List.length_map, hlt', ev_at (av := Tm.av) eI_31 hx (Tm.av_width x), Nat.zero_add, evF, ↓evZ, implies_true, seval, tf_V7_99]
      refine wP [(0, 1), (2, 1), (4, 1), (7, 1), (1, 2), (3, 2), (5, 1), (6, 2), (8, 2), (9, 1), (10, 0), (11, 1), (12, 0)] [0, 2, 4, 7, 1, 3, 5, 6, 8, 9, 11] mixed ?_
      simp -implicitDefEqProofs only [ev_at (av := Tm.av) eI_31 hx (Tm.av_width x), Tm.av_agg, Tm.av_width, hbo, accV_agg, accV_width, Nat.zero_add, evF, ↓evZ, implies_true, seval, tf_V7_99]
      refine zw4 (IH x (List.mem_of_getElem? hx) _) ?_
      simp -implicitDefEqProofs only [Tm.av_agg, Tm.av_width, Tm.av_junk, hbo, accV_agg, accV_width, Nat.zero_add, evF, ↓evZ, implies_true, seval, tf_V7_99]
      refine acc_append eI_31 eB_31 eZ_31 rfl rfl (by intro e he; simp only [List.mem_cons, List.not_mem_nil, or_false] at he; subst he; exact ⟨Tm.av_width _, Tm.av_store _⟩) (tm_widths _) hinv (by simp only [hlen', List.length_cons, List.length_nil]; omega) (by simp only [hlen', List.length_cons, List.length_nil]; omega) (fun b' hb' => ?_)
      rw [show (((ts.take i).map (Tm.mapv (subB bs))).map Tm.av) ++ [((Tm.mapv (subB bs)) x).av] = ((ts.take (i + 1)).map (Tm.mapv (subB bs))).map Tm.av by rw [htk]; simp] at hb' ⊢
      obtain ⟨g1, g2, g3⟩ := kidS_set hb'
      simp only [List.cons_append, List.nil_append] at g1 g3
      simp -implicitDefEqProofs only [g3, accV_cells, accV_store, zy4, Nat.le_refl, g1, hw, evF, ↓evZ, implies_true, seval, tf_V7_99]
      exact ⟨b', g2, zx7.mk (by simp -implicitDefEqProofs only [evF, ↓evZ, implies_true, seval, tf_V7_99])⟩
     have hbo := kidS_c hinv
     rw [List.take_length] at hinv hbo ⊢
     simp -implicitDefEqProofs only [List.length_map, hge, evF, ↓evZ, implies_true, seval, tf_V7_99]
     simp -implicitDefEqProofs only [hbo, evF, ↓evZ, implies_true, seval, tf_V7_99]
     have h1 := kidS_ne hinv hS hb2c
     rw [zy7.upd_same] at h1
     simp -implicitDefEqProofs only [h1, accV_store, accV_cells, zy4, Nat.le_refl, evF, ↓evZ, implies_true, seval, tf_V7_99]
     obtain ⟨h2, h3⟩ := kidS_upd (o := .cells [AV.int .i64 k, AV.int .i64 n, AV.str s, accV 4 b ((ts.map (Tm.mapv (subB bs))).map Tm.av)]) hinv hS hb2c
     refine ⟨b, _, _, h2, h3, tm_junk _, ⟨4, tm_widths _⟩, ?_, (((Drops.refl _).upd hb2).upd hn2).upd hb2⟩
     simp only [fin_agg, List.map_cons, List.map_nil, fin_int, fin_str, accV_fin, ← Tm.av_mk]
     exact l3_none h hs0 hts0 hf
  · simp only [decide_eq_false_iff_not] at h
    simp -implicitDefEqProofs only [evF, ↓evZ, implies_true, seval, tf_V7_99]
    intro c hc
    have hne : c ≠ b2 := by rintro rfl; rw [zy7.upd_same] at hc; cases hc
    have hn2 : st c = none := by rw [zy7.upd_ne st _ hne] at hc; exact hc
    have hb2c : b2 ≠ c := Ne.symm hne
    have hS : (st.upd b2 (.cells [AV.int .i64 0, AV.int .i64 0, AV.str ⟨#[]⟩, AV.fslice []])) b2 ≠ none := by rw [zy7.upd_same]; simp
    refine zy5 (σ := Nat) [1000000] [1, 2, 4, 7] ts (fun i b => (((ts.take i).map (Tm.mapv (subB bs))).map Tm.av ≠ [] → (zy7.upd (st.upd b2 (.cells [AV.int .i64 0, AV.int .i64 0, AV.str ⟨#[]⟩, AV.fslice []])) c (.cells ([AV.int .i64 k, AV.int .i64 n, AV.str s] ++ [accV 4 b (((ts.take i).map (Tm.mapv (subB bs))).map Tm.av)]))) b = none)) (fun i b => [(8, .int .i64 i)]) (fun i b => kidS (st.upd b2 (.cells [AV.int .i64 0, AV.int .i64 0, AV.str ⟨#[]⟩, AV.fslice []])) c b [AV.int .i64 k, AV.int .i64 n, AV.str s] (((ts.take i).map (Tm.mapv (subB bs))).map Tm.av)) (by decide +kernel)
     ⟨0, fun h => absurd rfl h, zx7.mk (by simp -implicitDefEqProofs only [List.length_map, evF, ↓evZ, implies_true, seval, tf_V7_99])⟩ (fun i x b hx hlt hlt' hdr hinv => ?_) (fun b hge hinv => ?_)
    case refine_1 =>
     have hw := wrap64 (n := (i : Int) + 1) (by omega) (by omega)
     have hlen' : (((ts.take i).map (Tm.mapv (subB bs))).map Tm.av).length = i := by simp only [List.length_map, List.length_take]; omega
     have htk : (ts.take (i + 1)).map (Tm.mapv (subB bs)) = (ts.take i).map (Tm.mapv (subB bs)) ++ [(Tm.mapv (subB bs)) x] := by rw [List.take_add_one, hx]; simp
     have hbo := kidS_c hinv
     simp -implicitDefEqProofs only [List.length_map, hlt', ev_at (av := Tm.av) eI_31 hx (Tm.av_width x), Nat.zero_add, evF, ↓evZ, implies_true, seval, tf_V7_99]
     refine wP [(0, 1), (2, 1), (4, 1), (7, 1), (1, 2), (3, 2), (5, 1), (6, 2), (8, 2), (9, 1), (10, 0), (11, 1), (12, 0)] [0, 2, 4, 7, 1, 3, 5, 6, 8, 9, 11] mixed ?_
     simp -implicitDefEqProofs only [ev_at (av := Tm.av) eI_31 hx (Tm.av_width x), Tm.av_agg, Tm.av_width, hbo, accV_agg, accV_width, Nat.zero_add, evF, ↓evZ, implies_true, seval, tf_V7_99]
     refine zw4 (IH x (List.mem_of_getElem? hx) _) ?_
     simp -implicitDefEqProofs only [Tm.av_agg, Tm.av_width, Tm.av_junk, hbo, accV_agg, accV_width, Nat.zero_add, evF, ↓evZ, implies_true, seval, tf_V7_99]
     refine acc_append eI_31 eB_31 eZ_31 rfl rfl (by intro e he; simp only [List.mem_cons, List.not_mem_nil, or_false] at he; subst he; exact ⟨Tm.av_width _, Tm.av_store _⟩) (tm_widths _) hinv (by simp only [hlen', List.length_cons, List.length_nil]; omega) (by simp only [hlen', List.length_cons, List.length_nil]; omega) (fun b' hb' => ?_)
     rw [show (((ts.take i).map (Tm.mapv (subB bs))).map Tm.av) ++ [((Tm.mapv (subB bs)) x).av] = ((ts.take (i + 1)).map (Tm.mapv (subB bs))).map Tm.av by rw [htk]; simp] at hb' ⊢
     obtain ⟨g1, g2, g3⟩ := kidS_set hb'
     simp only [List.cons_append, List.nil_append] at g1 g3
     simp -implicitDefEqProofs only [g3, accV_cells, accV_store, zy4, Nat.le_refl, g1, hw, evF, ↓evZ, implies_true, seval, tf_V7_99]
     exact ⟨b', g2, zx7.mk (by simp -implicitDefEqProofs only [evF, ↓evZ, implies_true, seval, tf_V7_99])⟩
    have hbo := kidS_c hinv
    rw [List.take_length] at hinv hbo ⊢
    simp -implicitDefEqProofs only [List.length_map, hge, evF, ↓evZ, implies_true, seval, tf_V7_99]
    simp -implicitDefEqProofs only [hbo, evF, ↓evZ, implies_true, seval, tf_V7_99]
    have h1 := kidS_ne hinv hS hb2c
    rw [zy7.upd_same] at h1
    simp -implicitDefEqProofs only [h1, accV_store, accV_cells, zy4, Nat.le_refl, evF, ↓evZ, implies_true, seval, tf_V7_99]
    obtain ⟨h2, h3⟩ := kidS_upd (o := .cells [AV.int .i64 k, AV.int .i64 n, AV.str s, accV 4 b ((ts.map (Tm.mapv (subB bs))).map Tm.av)]) hinv hS hb2c
    refine ⟨b, _, _, h2, h3, tm_junk _, ⟨4, tm_widths _⟩, ?_, (((Drops.refl _).upd hb2).upd hn2).upd hb2⟩
    simp only [fin_agg, List.map_cons, List.map_nil, fin_int, fin_str, accV_fin, ← Tm.av_mk]
    rw [Tm.mapv_mk _ h]
termination_by t => SizeOf.sizeOf t
decreasing_by have := List.sizeOf_lt_of_mem hx; simp only [Tm.mk.sizeOf_spec]; omega
def appB (t : Tm) (bs : List Bd) : Option Tm :=
 if t.valid = true ∧ (bs.all fun b => b.2.valid) = true ∧ (t.mapv (subB bs)).valid = true then some (t.mapv (subB bs)) else none
theorem subB_small {bs : List Bd} (h : ∀ b ∈ bs, b.2.small = true) (n : Int) : (subB bs n).small = true := by
 unfold subB
 have : ∀ l : List Bd, (∀ b ∈ l, b.2.small = true) → ∀ x, findB l n = some x → x.small = true := by
  intro l
  induction l with
  | nil => intro _ x h; cases h
  | cons y l ih =>
   obtain ⟨m, t⟩ := y
   intro hl x h
   simp only [findB] at h
   split at h
   · cases h; exact hl (m, _) (by simp)
   · exact ih (fun b hb => hl b (by simp [hb])) x h
 cases hf : findB bs n with
 | none => rfl
 | some x => exact this bs h x hf
theorem all_small {bs : List Bd} (h : (bs.all fun b => b.2.valid) = true) : ∀ b ∈ bs, b.2.small = true := fun b hb => Tm.valid_small (List.all_eq_true.1 h b hb)
theorem optAv_soft (x : Option Tm) : (optAv x).soft = optAv x := by cases x <;> simp only [optAv, soft_tup, List.map_cons, List.map_nil, Tm.soft, soft_bool]
abbrev tf_V8_26 := zi tI_4 (zi zI_4 (zi underlying4 (zi tI_42 (zi zI_42 (zi fI_42_0 (zi fI_42_1 (zi fI_42_2 (zi fI_42_3 (zi bI_42 (zi tI_45 (zi zI_45 (zi eI_45 (zi eB_45 (zi eZ_45 underlying45))))))))))))))
theorem c_impl_ApplyBinds (t : Tm) (bs : List Bd) (st : zy7) : zq7 prog 26 [t.av, .slice (bs.map bdAv)] st (fun r st' => r = optAv (appB t bs) ∧ st' = st) := by
 refine zq7.done ?_
 refine wF [1000000] 2 func26 ntmps26 rfl rfl ?_
 intro _
 simp -implicitDefEqProofs only [zy4, evF, ↓evZ, implies_true, seval, tf_V8_26]
 intro b hb
 have hend : ∀ o, ((AV.tup [.agg [.int .i64 0, .int .i64 0, .str ⟨#[]⟩, .fslice []], .bool false]).soft = optAv none) ∧ Drops (st.upd b o) st := fun o => ⟨by simp only [optAv, Tm.zero, Tm.av_mk, soft_agg, soft_tup, soft_int, soft_bool, soft_str, soft_slice, soft_fslice, soft_ptr, soft_pptr, soft_map, soft_mslice, Tm.soft, List.map_cons, List.map_nil], (Drops.refl _).upd hb⟩
 refine (c_impl_TermValid t _).to ?_
 simp -implicitDefEqProofs only [zy4, evF, ↓evZ, implies_true, seval, tf_V8_26]
 refine zx4 (fun h => ?_) (fun h => ?_)
 case refine_2 =>
  simp only [Bool.not_false, Bool.not_eq_true'] at h
  simp -implicitDefEqProofs only [h, zy4, evF, ↓evZ, implies_true, seval, tf_V8_26]
  rw [appB, if_neg (by simp [h])]
  exact hend _
 simp only [Bool.not_eq_false'] at h
 simp -implicitDefEqProofs only [h, zy4, evF, ↓evZ, implies_true, seval, tf_V8_26]
 refine (c_ContainsFuncBd bs _ [] (fun b => !b.2.valid) _ fun x _ => c_ApplyBinds_1 x _).to ?_
 simp -implicitDefEqProofs only [h, zy4, evF, ↓evZ, implies_true, seval, tf_V8_26]
 refine zq4 (fun h2 => ?_) (fun h2 => ?_)
 · simp -implicitDefEqProofs only [zy4, evF, ↓evZ, implies_true, seval, tf_V8_26]
   rw [appB, if_neg (by rw [← any_not_all, h2]; simp)]
   exact hend _
 have hall : (bs.all fun b => b.2.valid) = true := by rw [← any_not_all, h2]; rfl
 have hsm := all_small hall
 simp -implicitDefEqProofs only [zy4, evF, ↓evZ, implies_true, seval, tf_V8_26]
 refine (c_mapVars (subB bs) _ [.pptr (.slice (bs.map bdAv))] rfl t _ (Tm.valid_small h) (fun n _ s => c_ApplyBinds_2 bs n s)).to ?_
 simp -implicitDefEqProofs only [zy4, evF, ↓evZ, implies_true, seval, tf_V8_26]
 refine (o_own (t.mapv (subB bs)) _ (Tm.mapv_small (subB_small hsm) t (Tm.valid_small h))).made.to ?_
 simp -implicitDefEqProofs only [zy4, evF, ↓evZ, implies_true, seval, tf_V8_26]
 refine (c_impl_TermValid _ _).to ?_
 simp -implicitDefEqProofs only [zy4, evF, ↓evZ, implies_true, seval, tf_V8_26]
 refine zq4 (fun h3 => ?_) (fun h3 => ?_)
 · simp -implicitDefEqProofs only [zy4, evF, ↓evZ, implies_true, seval, tf_V8_26]
   simp only [Bool.not_eq_true'] at h3
   rw [appB, if_neg (by simp [h3])]
   exact hend _
 · simp -implicitDefEqProofs only [zy4, evF, ↓evZ, implies_true, seval, tf_V8_26]
   simp only [Bool.not_eq_false'] at h3
   rw [appB, if_pos ⟨h, hall, h3⟩]
   exact ⟨optAv_soft (some _), (Drops.refl _).upd hb⟩
end Go.AW
namespace Go.AW
abbrev IsGood (σ : Sub) : Prop := ∃ R rk B, Good σ R rk B
theorem IsGood.rs {σ : Sub} (h : IsGood σ) : ∃ rk B, Good σ (rs σ) rk B := by
 obtain ⟨R, rk, B, G⟩ := h
 exact ⟨rk, B, by rw [G.rs]; exact G⟩
theorem IsGood.none : IsGood Sub.none := ⟨_, _, _, Good.none⟩
structure Uni (σ : Sub) (a b : List Tm) (r : Bool) (σ' : Sub) (tr : List Int) : Prop where
 good : IsGood σ'
 keep : ∀ m, m ∉ tr → σ' m = σ m
 new : ∀ m ∈ tr, σ m = none ∧ σ' m ≠ none
 nodup : tr.Nodup
 eq : r = true → a.map (Tm.mapv (rs σ')) = b.map (Tm.mapv (rs σ'))
 gen : ∀ θ, Sol θ σ → a.map (Tm.mapv θ) = b.map (Tm.mapv θ) → r = true ∧ Sol θ σ'
 same : tr = [] → σ' = σ
theorem Sol.sub {σ σ' : Sub} {θ : Int → Tm} {tr : List Int} (S : Sol θ σ') (keep : ∀ m, m ∉ tr → σ' m = σ m) (new : ∀ m ∈ tr, σ m = none ∧ σ' m ≠ none) : Sol θ σ := fun n u h => by
 by_cases hn : n ∈ tr
 · rw [(new n hn).1] at h; cases h
 · exact S n u (by rw [keep n hn]; exact h)
theorem Uni.isSol {σ σ' : Sub} {a b : List Tm} {r : Bool} {tr : List Int} (h : Uni σ a b r σ' tr) : Sol (rs σ') σ := by
 obtain ⟨rk, B, G⟩ := h.good.rs
 exact G.isSol.sub h.keep h.new
theorem Uni.stays {σ σ' : Sub} {a b : List Tm} {r : Bool} {tr : List Int} (h : Uni σ a b r σ' tr) (hg : IsGood σ) {x y : Tm} (e : x.mapv (rs σ) = y.mapv (rs σ)) : x.mapv (rs σ') = y.mapv (rs σ') := by
 obtain ⟨rk, B, G⟩ := hg.rs
 rw [← G.factorT h.isSol x, ← G.factorT h.isSol y, e]
theorem bnd_uni {σ : Sub} (hg : IsGood σ) {a b : Tm} {n : Int} (ha : a.k = 1) (han : a.n = n) (hn : σ n = none) (hb : b.k = 1 → σ b.n = none ∧ b.n ≠ n) {r : Bool} {σ' : Sub} {tr : List Int} (h : bnd σ n b = (r, σ', tr)) : Uni σ [a] [b] r σ' tr := by
 obtain ⟨rk, B, G⟩ := hg.rs
 have hav : ∀ θ, a.mapv θ = θ n := fun θ => by rw [Tm.mapv_k1 θ ha, han]
 unfold bnd at h
 split at h
 · rename_i hmem
   cases h
   refine ⟨hg, fun _ _ => rfl, fun _ h => absurd h (List.not_mem_nil), List.nodup_nil, fun h => (by cases h), fun θ S e => ?_, fun _ => rfl⟩
   exfalso
   simp only [List.map_cons, List.map_nil, List.cons.injEq, and_true] at e
   rw [hav] at e
   by_cases hbk : b.k = 1
   · rw [Tm.mapv_k1 _ hbk, G.free (hb hbk).1, vl_vr] at hmem
     simp only [List.mem_cons, List.not_mem_nil, or_false] at hmem
     exact (hb hbk).2 hmem.symm
   · rw [← G.factorT S b] at e
     have h1 : ((b.mapv (rs σ)).mapv θ) = (b.mapv (rs σ)).mapv θ := rfl
     have hk : (b.mapv (rs σ)).k ≠ 1 := by rw [Tm.mapv_k _ hbk]; exact hbk
     have := (nodes_mapv (f := θ) (b.mapv (rs σ)) hmem).2 hk
     rw [e] at this
     exact absurd this (Nat.lt_irrefl _)
 · rename_i hmem
   cases h
   obtain ⟨rk', B', G'⟩ := G.bind hn hmem
   have hR := G'.rs
   refine ⟨⟨_, _, _, G'⟩, fun m hm => ?_, fun m hm => ?_, by simp, fun _ => ?_, fun θ S e => ⟨rfl, fun m u hu => ?_⟩, fun h => (by cases h)⟩
   · simp only [List.mem_cons, List.not_mem_nil, or_false] at hm
     simp only [Sub.set, hm, if_false]
   · simp only [List.mem_cons, List.not_mem_nil, or_false] at hm
     subst hm
     exact ⟨hn, by simp [Sub.set]⟩
   · simp only [List.map_cons, List.map_nil, List.cons.injEq, and_true]
     rw [hav, hR]
     exact G'.bound (by simp [Sub.set])
   · simp only [List.map_cons, List.map_nil, List.cons.injEq, and_true] at e
     rw [hav] at e
     simp only [Sub.set] at hu
     split at hu
     · rename_i hmn
       cases hu
       rw [hmn, e]
     · exact S m u hu
theorem headEq_iff {a b : Tm} : headEq a b = true ↔ a.k = b.k ∧ a.n = b.n ∧ a.s = b.s ∧ a.ts.length = b.ts.length := by
 simp only [headEq, Bool.and_eq_true, decide_eq_true_eq, and_assoc]
theorem unisF_list (g : Nat) (ihU0 : ∀ σ a b r σ' tr, IsGood σ → uniF g σ a b = some (r, σ', tr) → Uni σ [a] [b] r σ' tr) : ∀ xs ys σ r σ' tr, IsGood σ → xs.length = ys.length → unisF g σ xs ys = some (r, σ', tr) → Uni σ xs ys r σ' tr := by
 intro xs
 have ihU := ihU0
 induction xs with
 | nil =>
  intro ys σ r σ' tr hg hl h
  cases ys with
  | cons _ _ => simp at hl
  | nil =>
   simp only [unisF, Option.some.injEq, Prod.mk.injEq] at h
   obtain ⟨rfl, rfl, rfl⟩ := h
   exact ⟨hg, fun _ _ => rfl, fun _ h => absurd h (List.not_mem_nil), List.nodup_nil, fun _ => rfl, fun θ S _ => ⟨rfl, S⟩, fun _ => rfl⟩
 | cons a xs ih =>
  intro ys σ r σ' tr hg hl h
  cases ys with
  | nil => simp at hl
  | cons b ys =>
   rw [unisF] at h
   cases h1 : uniF g σ a b with
   | none => rw [h1] at h; cases h
   | some p =>
    obtain ⟨r1, σ1, tr1⟩ := p
    have U1 := ihU σ a b r1 σ1 tr1 hg h1
    rw [h1] at h
    cases r1 with
    | false =>
     simp only [Option.some.injEq, Prod.mk.injEq] at h
     obtain ⟨rfl, rfl, rfl⟩ := h
     refine ⟨U1.good, U1.keep, U1.new, U1.nodup, fun h => (by cases h), fun θ S e => ?_, U1.same⟩
     simp only [List.map_cons, List.cons.injEq] at e
     exact U1.gen θ S (by simp [e.1])
    | true =>
     simp only at h
     cases h2 : unisF g σ1 xs ys with
     | none => rw [h2] at h; cases h
     | some p2 =>
      obtain ⟨r2, σ2, tr2⟩ := p2
      rw [h2] at h
      simp only [Option.some.injEq, Prod.mk.injEq] at h
      obtain ⟨rfl, rfl, rfl⟩ := h
      have U2 := ih ys σ1 r2 σ2 tr2 U1.good (by simpa using hl) h2
      refine ⟨U2.good, fun m hm => ?_, fun m hm => ?_, ?_, fun hr => ?_, fun θ S e => ?_, fun h => ?_⟩
      · simp only [List.mem_append, not_or] at hm
        rw [U2.keep m hm.2, U1.keep m hm.1]
      · rcases List.mem_append.1 hm with hm | hm
        · refine ⟨(U1.new m hm).1, fun h => (U1.new m hm).2 ?_⟩
          by_cases h3 : m ∈ tr2
          · exact (U2.new m h3).1
          · rw [← U2.keep m h3]; exact h
        · refine ⟨?_, (U2.new m hm).2⟩
          by_cases h3 : m ∈ tr1
          · exact (U1.new m h3).1
          · rw [← U1.keep m h3]; exact (U2.new m hm).1
      · rw [List.nodup_append]
        refine ⟨U1.nodup, U2.nodup, fun x hx y hy e => ?_⟩
        subst e
        exact (U1.new x hx).2 (U2.new x hy).1
      · have e1 := U1.eq rfl
        simp only [List.map_cons, List.map_nil, List.cons.injEq, and_true] at e1
        simp only [List.map_cons]
        rw [U2.stays U1.good e1, U2.eq hr]
      · simp only [List.map_cons, List.cons.injEq] at e
        obtain ⟨_, S1⟩ := U1.gen θ S (by simp [e.1])
        exact U2.gen θ S1 e.2
      · simp only [List.append_eq_nil_iff] at h
        rw [U2.same h.2, U1.same h.1]
theorem uniF_both : ∀ (g : Nat), (∀ σ a b r σ' tr, IsGood σ → uniF g σ a b = some (r, σ', tr) → Uni σ [a] [b] r σ' tr) ∧
 ∀ xs ys σ r σ' tr, IsGood σ → xs.length = ys.length → unisF g σ xs ys = some (r, σ', tr) → Uni σ xs ys r σ' tr := by
 intro g
 induction g with
 | zero =>
  have h0 : ∀ σ a b r σ' tr, IsGood σ → uniF 0 σ a b = some (r, σ', tr) → Uni σ [a] [b] r σ' tr := fun σ a b r σ' tr hg h => by simp only [uniF] at h; cases h
  exact ⟨h0, unisF_list _ h0⟩
 | succ g ih =>
  suffices hU : ∀ σ a b r σ' tr, IsGood σ → uniF (g + 1) σ a b = some (r, σ', tr) → Uni σ [a] [b] r σ' tr from ⟨hU, unisF_list _ hU⟩
  intro σ a b r σ' tr hg h
  obtain ⟨ihU, ihL⟩ := ih
  have ihL' := fun xs ys σ r σ' tr hg hl h => ihL xs ys σ r σ' tr hg hl h
  obtain ⟨rk, B, G⟩ := hg.rs
  obtain ⟨fa, wa⟩ := G.wk a
  obtain ⟨fb, wb⟩ := G.wk b
  have hma : ∀ θ, Sol θ σ → (wk σ a).mapv θ = a.mapv θ := fun θ S => wa.mapv S
  have hmb : ∀ θ, Sol θ σ → (wk σ b).mapv θ = b.mapv θ := fun θ S => wb.mapv S
  -- it suffices to speak of the walked terms
  suffices hw : Uni σ [wk σ a] [wk σ b] r σ' tr by
   refine ⟨hw.good, hw.keep, hw.new, hw.nodup, fun hr => ?_, fun θ S e => ?_, hw.same⟩
   · have := hw.eq hr
     simp only [List.map_cons, List.map_nil, List.cons.injEq, and_true] at this ⊢
     rw [← hma _ hw.isSol, ← hmb _ hw.isSol]; exact this
   · refine hw.gen θ S ?_
     simp only [List.map_cons, List.map_nil, List.cons.injEq, and_true] at e ⊢
     rw [hma θ S, hmb θ S]; exact e
  have ea := wa.end
  have eb := wb.end
  rw [uniF] at h
  generalize wk σ a = a at *
  generalize wk σ b = b at *
  split at h
  · rename_i hc
    simp only [Option.some.injEq, Prod.mk.injEq] at h
    obtain ⟨rfl, rfl, rfl⟩ := h
    have he : ∀ θ, a.mapv θ = b.mapv θ := fun θ => by rw [Tm.mapv_k1 θ hc.1, Tm.mapv_k1 θ hc.2.1, hc.2.2]
    exact ⟨hg, fun _ _ => rfl, fun _ h => absurd h (List.not_mem_nil), List.nodup_nil, fun _ => by simp [he], fun θ S _ => ⟨rfl, S⟩, fun _ => rfl⟩
  · rename_i hc
    split at h
    · rename_i ha
      exact bnd_uni hg ha rfl (ea ha) (fun hb => ⟨eb hb, fun e => hc ⟨ha, hb, e.symm⟩⟩) (Option.some.inj h)
    · rename_i ha
      split at h
      · rename_i hb
        have U := bnd_uni hg hb rfl (eb hb) (fun ha' => absurd ha' ha) (Option.some.inj h)
        exact ⟨U.good, U.keep, U.new, U.nodup, fun hr => (U.eq hr).symm, fun θ S e => U.gen θ S e.symm, U.same⟩
      · rename_i hb
        split at h
        · rename_i hh
          rw [headEq_iff] at hh
          have U := ihL' a.ts b.ts σ r σ' tr hg hh.2.2.2 h
          refine ⟨U.good, U.keep, U.new, U.nodup, fun hr => ?_, fun θ S e => ?_, U.same⟩
          · simp only [List.map_cons, List.map_nil, List.cons.injEq, and_true]
            rw [Tm.mapv_k _ ha, Tm.mapv_k _ hb, hh.1, hh.2.1, hh.2.2.1, U.eq hr]
          · simp only [List.map_cons, List.map_nil, List.cons.injEq, and_true] at e
            rw [Tm.mapv_k _ ha, Tm.mapv_k _ hb] at e
            exact U.gen θ S (by injection e)
        · rename_i hh
          simp only [Option.some.injEq, Prod.mk.injEq] at h
          obtain ⟨rfl, rfl, rfl⟩ := h
          refine ⟨hg, fun _ _ => rfl, fun _ h => absurd h (List.not_mem_nil), List.nodup_nil, fun h => (by cases h), fun θ S e => ?_, fun _ => rfl⟩
          exfalso
          simp only [List.map_cons, List.map_nil, List.cons.injEq, and_true] at e
          rw [Tm.mapv_k _ ha, Tm.mapv_k _ hb] at e
          injection e with e1 e2 e3 e4
          exact hh (headEq_iff.2 ⟨e1, e2, e3, by simpa using congrArg List.length e4⟩)
theorem uniF_uni {g : Nat} {σ : Sub} {a b : Tm} {r : Bool} {σ' : Sub} {tr : List Int} (hg : IsGood σ) (h : uniF g σ a b = some (r, σ', tr)) : Uni σ [a] [b] r σ' tr := (uniF_both g).1 σ a b r σ' tr hg h
theorem unisF_mono (g g' : Nat) (ih : ∀ σ a b x, uniF g σ a b = some x → uniF g' σ a b = some x) : ∀ xs ys σ x, unisF g σ xs ys = some x → unisF g' σ xs ys = some x := by
 intro xs
 induction xs with
 | nil => intro ys σ x h; cases ys <;> simpa only [unisF] using h
 | cons a xs ihx =>
  intro ys σ x h
  cases ys with
  | nil => simpa only [unisF] using h
  | cons b ys =>
   rw [unisF] at h ⊢
   cases h1 : uniF g σ a b with
   | none => rw [h1] at h; cases h
   | some p =>
    rw [h1] at h
    rw [ih _ _ _ _ h1]
    obtain ⟨r1, σ1, tr1⟩ := p
    cases r1 with
    | false => exact h
    | true =>
     simp only at h ⊢
     cases h2 : unisF g σ1 xs ys with
     | none => rw [h2] at h; cases h
     | some p2 => rw [h2] at h; rw [ihx ys σ1 p2 h2]; exact h
theorem uniF_succ : ∀ (g : Nat) σ a b x, uniF g σ a b = some x → uniF (g + 1) σ a b = some x := by
 intro g
 induction g with
 | zero => intro σ a b x h; simp only [uniF] at h; cases h
 | succ g ih =>
  intro σ a b x h
  rw [uniF] at h ⊢
  split
  · rename_i hc; rw [if_pos hc] at h; exact h
  · rename_i hc
    rw [if_neg hc] at h
    split
    · rename_i hc; rw [if_pos hc] at h; exact h
    · rename_i hc
      rw [if_neg hc] at h
      split
      · rename_i hc; rw [if_pos hc] at h; exact h
      · rename_i hc
        rw [if_neg hc] at h
        split
        · rename_i hc; rw [if_pos hc] at h; exact unisF_mono g (g + 1) ih _ _ _ _ h
        · rename_i hc; rw [if_neg hc] at h; exact h
theorem uniF_le {g g' : Nat} (hle : g ≤ g') {σ : Sub} {a b : Tm} {x : Bool × Sub × List Int} (h : uniF g σ a b = some x) : uniF g' σ a b = some x := by
 induction hle with
 | refl => exact h
 | step _ ih => exact uniF_succ _ _ _ _ _ ih
theorem unisF_le {g g' : Nat} (hle : g ≤ g') {σ : Sub} {xs ys : List Tm} {x : Bool × Sub × List Int} (h : unisF g σ xs ys = some x) : unisF g' σ xs ys = some x :=
 unisF_mono g g' (fun _ _ _ _ h => uniF_le hle h) xs ys σ x h
def unb (σ : Sub) (V : List Int) : Nat := V.countP fun v => (σ v).isNone
def InV (V : List Int) (t : Tm) : Prop := ∀ v ∈ t.vl, v ∈ V
def RangeIn (V : List Int) (σ : Sub) : Prop := ∀ n u, σ n = some u → InV V u
theorem unb_lt {σ σ' : Sub} {tr : List Int} {V : List Int} (keep : ∀ m, m ∉ tr → σ' m = σ m) (new : ∀ m ∈ tr, σ m = none ∧ σ' m ≠ none) {m : Int} (hm : m ∈ tr) (hV : m ∈ V) : unb σ' V < unb σ V := by
 have mono : ∀ v, (σ' v).isNone = true → (σ v).isNone = true := fun v h => by
  by_cases hv : v ∈ tr
  · rw [(new v hv).1]; rfl
  · rw [← keep v hv]; exact h
 have le : ∀ W : List Int, unb σ' W ≤ unb σ W := fun W => List.countP_mono_left fun v _ h => mono v h
 unfold unb at *
 induction V with
 | nil => cases hV
 | cons v V ih =>
  simp only [List.countP_cons]
  have hle := le V
  rcases List.mem_cons.1 hV with rfl | hV
  · have h1 : (σ m).isNone = true := by rw [(new m hm).1]; rfl
    have h2 : (σ' m).isNone = false := by
     cases h : σ' m with
     | none => exact absurd h (new m hm).2
     | some _ => rfl
    simp only [h1, h2, if_true, Bool.false_eq_true, if_false]
    omega
  · have := ih hV
    have h3 := mono v
    by_cases h4 : (σ' v).isNone = true
    · rw [if_pos h4, if_pos (h3 h4)]; omega
    · rw [if_neg h4]; split <;> omega
theorem WkN.inV {σ : Sub} {V : List Int} (hr : RangeIn V σ) {f : Nat} {t u : Tm} (h : WkN σ f t u) (ht : InV V t) : InV V u := h.all (p := InV V) (fun n u hu => hr n u hu) ht
theorem InV.kid {V : List Int} {t x : Tm} (h : InV V t) (hk : t.k ≠ 1) (hx : x ∈ t.ts) : InV V x := fun v hv => h v (by cases t; exact (Tm.vl_mk hk).2 ⟨x, hx, hv⟩)
theorem uni_inV : ∀ (g : Nat), (∀ σ a b r σ' tr V, IsGood σ → uniF g σ a b = some (r, σ', tr) → RangeIn V σ → InV V a → InV V b → RangeIn V σ' ∧ ∀ m ∈ tr, m ∈ V) ∧
 ∀ xs ys σ r σ' tr V, IsGood σ → xs.length = ys.length → unisF g σ xs ys = some (r, σ', tr) → RangeIn V σ → (∀ x ∈ xs, InV V x) → (∀ y ∈ ys, InV V y) → RangeIn V σ' ∧ ∀ m ∈ tr, m ∈ V := by
 intro g
 have list : ∀ g, (∀ σ a b r σ' tr V, IsGood σ → uniF g σ a b = some (r, σ', tr) → RangeIn V σ → InV V a → InV V b → RangeIn V σ' ∧ ∀ m ∈ tr, m ∈ V) →
  ∀ xs ys σ r σ' tr V, IsGood σ → xs.length = ys.length → unisF g σ xs ys = some (r, σ', tr) → RangeIn V σ → (∀ x ∈ xs, InV V x) → (∀ y ∈ ys, InV V y) → RangeIn V σ' ∧ ∀ m ∈ tr, m ∈ V := by
  intro g ihU xs
  induction xs with
  | nil =>
   intro ys σ r σ' tr V hg hl h hr _ _
   cases ys with
   | cons _ _ => simp at hl
   | nil =>
    simp only [unisF, Option.some.injEq, Prod.mk.injEq] at h
    obtain ⟨rfl, rfl, rfl⟩ := h
    exact ⟨hr, fun _ h => absurd h (List.not_mem_nil)⟩
  | cons a xs ih =>
   intro ys σ r σ' tr V hg hl h hr hx hy
   cases ys with
   | nil => simp at hl
   | cons b ys =>
    rw [unisF] at h
    cases h1 : uniF g σ a b with
    | none => rw [h1] at h; cases h
    | some p =>
     obtain ⟨r1, σ1, tr1⟩ := p
     have U1 := uniF_uni hg h1
     obtain ⟨i1, i2⟩ := ihU σ a b r1 σ1 tr1 V hg h1 hr (hx a (by simp)) (hy b (by simp))
     rw [h1] at h
     cases r1 with
     | false =>
      simp only [Option.some.injEq, Prod.mk.injEq] at h
      obtain ⟨rfl, rfl, rfl⟩ := h
      exact ⟨i1, i2⟩
     | true =>
      simp only at h
      cases h2 : unisF g σ1 xs ys with
      | none => rw [h2] at h; cases h
      | some p2 =>
       obtain ⟨r2, σ2, tr2⟩ := p2
       rw [h2] at h
       simp only [Option.some.injEq, Prod.mk.injEq] at h
       obtain ⟨rfl, rfl, rfl⟩ := h
       obtain ⟨j1, j2⟩ := ih ys σ1 r2 σ2 tr2 V U1.good (by simpa using hl) h2 i1 (fun x h => hx x (by simp [h])) (fun y h => hy y (by simp [h]))
       exact ⟨j1, fun m hm => (List.mem_append.1 hm).elim (i2 m) (j2 m)⟩
 induction g with
 | zero =>
  have h0 : ∀ σ a b r σ' tr V, IsGood σ → uniF 0 σ a b = some (r, σ', tr) → RangeIn V σ → InV V a → InV V b → RangeIn V σ' ∧ ∀ m ∈ tr, m ∈ V := fun σ a b r σ' tr V hg h => by simp only [uniF] at h; cases h
  exact ⟨h0, list 0 h0⟩
 | succ g ih =>
  suffices hU : ∀ σ a b r σ' tr V, IsGood σ → uniF (g + 1) σ a b = some (r, σ', tr) → RangeIn V σ → InV V a → InV V b → RangeIn V σ' ∧ ∀ m ∈ tr, m ∈ V from ⟨hU, list _ hU⟩
  intro σ a b r σ' tr V hg h hr ha hb
  obtain ⟨_, ihL⟩ := ih
  obtain ⟨rk, B, G⟩ := hg.rs
  obtain ⟨fa, wa⟩ := G.wk a
  obtain ⟨fb, wb⟩ := G.wk b
  have va := wa.inV hr ha
  have vb := wb.inV hr hb
  have bn : ∀ n (t : Tm) r σ' tr, n ∈ V → InV V t → bnd σ n t = (r, σ', tr) → RangeIn V σ' ∧ ∀ m ∈ tr, m ∈ V := by
   intro n t r σ' tr hn ht h
   unfold bnd at h
   split at h <;> cases h
   · exact ⟨hr, fun _ h => absurd h (List.not_mem_nil)⟩
   · refine ⟨fun m u hu => ?_, fun m hm => by simp only [List.mem_cons, List.not_mem_nil, or_false] at hm; rw [hm]; exact hn⟩
     simp only [Sub.set] at hu
     split at hu
     · cases hu; exact ht
     · exact hr m u hu
  rw [uniF] at h
  generalize wk σ a = a at *
  generalize wk σ b = b at *
  split at h
  · simp only [Option.some.injEq, Prod.mk.injEq] at h
    obtain ⟨rfl, rfl, rfl⟩ := h
    exact ⟨hr, fun _ h => absurd h (List.not_mem_nil)⟩
  · split at h
    · rename_i hk
      exact bn _ _ _ _ _ (va _ (by rw [Tm.vl_k1 hk]; simp)) vb (Option.some.inj h)
    · rename_i hka
      split at h
      · rename_i hk
        exact bn _ _ _ _ _ (vb _ (by rw [Tm.vl_k1 hk]; simp)) va (Option.some.inj h)
      · rename_i hkb
        split at h
        · rename_i hh
          exact ihL a.ts b.ts σ r σ' tr V hg (headEq_iff.1 hh).2.2.2 h hr (fun x hx => va.kid hka hx) (fun y hy => vb.kid hkb hy)
        · simp only [Option.some.injEq, Prod.mk.injEq] at h
          obtain ⟨rfl, rfl, rfl⟩ := h
          exact ⟨hr, fun _ h => absurd h (List.not_mem_nil)⟩
def AllS (p : Tm → Prop) (σ : Sub) : Prop := ∀ n u, σ n = some u → p u
theorem uni_all {p : Tm → Prop} (hp : ∀ t : Tm, t.k ≠ 1 → p t → ∀ x ∈ t.ts, p x) : ∀ (g : Nat), (∀ σ a b r σ' tr, IsGood σ → uniF g σ a b = some (r, σ', tr) → AllS p σ → p a → p b → AllS p σ') ∧
 ∀ xs ys σ r σ' tr, IsGood σ → xs.length = ys.length → unisF g σ xs ys = some (r, σ', tr) → AllS p σ → (∀ x ∈ xs, p x) → (∀ y ∈ ys, p y) → AllS p σ' := by
 intro g
 have list : ∀ g, (∀ σ a b r σ' tr, IsGood σ → uniF g σ a b = some (r, σ', tr) → AllS p σ → p a → p b → AllS p σ') →
  ∀ xs ys σ r σ' tr, IsGood σ → xs.length = ys.length → unisF g σ xs ys = some (r, σ', tr) → AllS p σ → (∀ x ∈ xs, p x) → (∀ y ∈ ys, p y) → AllS p σ' := by
  intro g ihU xs
  induction xs with
  | nil =>
   intro ys σ r σ' tr hg hl h hr _ _
   cases ys with
   | cons _ _ => simp at hl
   | nil =>
    simp only [unisF, Option.some.injEq, Prod.mk.injEq] at h
    obtain ⟨rfl, rfl, rfl⟩ := h
    exact hr
  | cons a xs ih =>
   intro ys σ r σ' tr hg hl h hr hx hy
   cases ys with
   | nil => simp at hl
   | cons b ys =>
    rw [unisF] at h
    cases h1 : uniF g σ a b with
    | none => rw [h1] at h; cases h
    | some p =>
     obtain ⟨r1, σ1, tr1⟩ := p
     have U1 := uniF_uni hg h1
     have i1 := ihU σ a b r1 σ1 tr1 hg h1 hr (hx a (by simp)) (hy b (by simp))
     rw [h1] at h
     cases r1 with
     | false =>
      simp only [Option.some.injEq, Prod.mk.injEq] at h
      obtain ⟨rfl, rfl, rfl⟩ := h
      exact i1
     | true =>
      simp only at h
      cases h2 : unisF g σ1 xs ys with
      | none => rw [h2] at h; cases h
      | some p2 =>
       obtain ⟨r2, σ2, tr2⟩ := p2
       rw [h2] at h
       simp only [Option.some.injEq, Prod.mk.injEq] at h
       obtain ⟨rfl, rfl, rfl⟩ := h
       have j1 := ih ys σ1 r2 σ2 tr2 U1.good (by simpa using hl) h2 i1 (fun x h => hx x (by simp [h])) (fun y h => hy y (by simp [h]))
       exact j1
 induction g with
 | zero =>
  have h0 : ∀ σ a b r σ' tr, IsGood σ → uniF 0 σ a b = some (r, σ', tr) → AllS p σ → p a → p b → AllS p σ' := fun σ a b r σ' tr hg h => by simp only [uniF] at h; cases h
  exact ⟨h0, list 0 h0⟩
 | succ g ih =>
  suffices hU : ∀ σ a b r σ' tr, IsGood σ → uniF (g + 1) σ a b = some (r, σ', tr) → AllS p σ → p a → p b → AllS p σ' from ⟨hU, list _ hU⟩
  intro σ a b r σ' tr hg h hr ha hb
  obtain ⟨_, ihL⟩ := ih
  obtain ⟨rk, B, G⟩ := hg.rs
  obtain ⟨fa, wa⟩ := G.wk a
  obtain ⟨fb, wb⟩ := G.wk b
  have va := wa.all hr ha
  have vb := wb.all hr hb
  have bn : ∀ n (t : Tm) r σ' tr, p t → bnd σ n t = (r, σ', tr) → AllS p σ' := by
   intro n t r σ' tr ht h
   unfold bnd at h
   split at h <;> cases h
   · exact hr
   · intro m u hu
     simp only [Sub.set] at hu
     split at hu
     · cases hu; exact ht
     · exact hr m u hu
  rw [uniF] at h
  generalize wk σ a = a at *
  generalize wk σ b = b at *
  split at h
  · simp only [Option.some.injEq, Prod.mk.injEq] at h
    obtain ⟨rfl, rfl, rfl⟩ := h
    exact hr
  · split at h
    · rename_i hk
      exact bn _ _ _ _ _ vb (Option.some.inj h)
    · rename_i hka
      split at h
      · rename_i hk
        exact bn _ _ _ _ _ va (Option.some.inj h)
      · rename_i hkb
        split at h
        · rename_i hh
          exact ihL a.ts b.ts σ r σ' tr hg (headEq_iff.1 hh).2.2.2 h hr (fun x hx => hp _ hka va x hx) (fun y hy => hp _ hkb vb y hy)
        · simp only [Option.some.injEq, Prod.mk.injEq] at h
          obtain ⟨rfl, rfl, rfl⟩ := h
          exact hr
theorem uniF_total (V : List Int) : ∀ (N M : Nat) (σ : Sub) (a b : Tm), IsGood σ → RangeIn V σ → InV V a → InV V b → unb σ V ≤ N → (a.mapv (rs σ)).nodes ≤ M → ∃ g x, uniF g σ a b = some x := by
 intro N
 induction N using Nat.strongRecOn with
 | _ N ihN =>
 intro M
 induction M using Nat.strongRecOn with
 | _ M ihM =>
 intro σ a b hg hr ha hb hN hM
 have list : ∀ (xs ys : List Tm) (σ1 : Sub), xs.length = ys.length → IsGood σ1 → RangeIn V σ1 → (σ1 = σ ∨ unb σ1 V < unb σ V) → (∀ x ∈ xs, InV V x ∧ (x.mapv (rs σ)).nodes < M) → (∀ y ∈ ys, InV V y) → ∃ g x, unisF g σ1 xs ys = some x := by
  intro xs
  induction xs with
  | nil =>
   intro ys σ1 hl _ _ _ _ _
   cases ys with
   | cons _ _ => simp at hl
   | nil => exact ⟨0, (true, σ1, []), by simp only [unisF]⟩
  | cons x xs ih =>
   intro ys σ1 hl hg1 hr1 hc hx hy
   cases ys with
   | nil => simp at hl
   | cons y ys =>
    have h1 : ∃ g p, uniF g σ1 x y = some p := by
     rcases hc with rfl | hlt
     · exact ihM _ (hx x (by simp)).2 σ1 x y hg1 hr1 (hx x (by simp)).1 (hy y (by simp)) hN (Nat.le_refl _)
     · exact ihN (unb σ1 V) (by omega) _ σ1 x y hg1 hr1 (hx x (by simp)).1 (hy y (by simp)) (Nat.le_refl _) (Nat.le_refl _)
    obtain ⟨g1, ⟨r1, σ2, tr1⟩, h1⟩ := h1
    have U1 := uniF_uni hg1 h1
    obtain ⟨i1, i2⟩ := (uni_inV g1).1 σ1 x y r1 σ2 tr1 V hg1 h1 hr1 (hx x (by simp)).1 (hy y (by simp))
    cases r1 with
    | false => exact ⟨g1, (false, σ2, tr1), by rw [unisF, h1]⟩
    | true =>
     have hc2 : σ2 = σ ∨ unb σ2 V < unb σ V := by
      cases htr : tr1 with
      | nil => rw [U1.same htr]; exact hc
      | cons m _ =>
       have := unb_lt (V := V) U1.keep U1.new (m := m) (by rw [htr]; simp) (i2 m (by rw [htr]; simp))
       rcases hc with rfl | hlt
       · exact .inr this
       · exact .inr (Nat.lt_trans this hlt)
     obtain ⟨g2, p2, h2⟩ := ih ys σ2 (by simpa using hl) U1.good i1 hc2 (fun z hz => hx z (by simp [hz])) (fun z hz => hy z (by simp [hz]))
     obtain ⟨r2, σ3, tr2⟩ := p2
     refine ⟨max g1 g2, (r2, σ3, tr1 ++ tr2), ?_⟩
     rw [unisF, uniF_le (Nat.le_max_left g1 g2) h1]
     simp only
     rw [unisF_le (Nat.le_max_right g1 g2) h2]
 obtain ⟨rk, B, G⟩ := hg.rs
 obtain ⟨fa, wa⟩ := G.wk a
 obtain ⟨fb, wb⟩ := G.wk b
 have va := wa.inV hr ha
 have vb := wb.inV hr hb
 have hma := wa.mapv G.isSol
 rw [← hma] at hM
 by_cases h1 : (wk σ a).k = 1 ∧ (wk σ b).k = 1 ∧ (wk σ a).n = (wk σ b).n
 · exact ⟨1, _, by rw [uniF, if_pos h1]⟩
 by_cases h2 : (wk σ a).k = 1
 · exact ⟨1, _, by rw [uniF, if_neg h1, if_pos h2]⟩
 by_cases h3 : (wk σ b).k = 1
 · exact ⟨1, _, by rw [uniF, if_neg h1, if_neg h2, if_pos h3]⟩
 by_cases h4 : headEq (wk σ a) (wk σ b) = true
 · have hkid : ∀ x ∈ (wk σ a).ts, InV V x ∧ (x.mapv (rs σ)).nodes < M := fun x hx => by
    refine ⟨va.kid h2 hx, ?_⟩
    rw [Tm.mapv_k _ h2, Tm.nodes_mk] at hM
    have := sumL_mem (f := Tm.nodes) (List.mem_map.2 ⟨x, hx, rfl⟩ : x.mapv (rs σ) ∈ (wk σ a).ts.map (Tm.mapv (rs σ)))
    omega
   obtain ⟨g, x, h⟩ := list (wk σ a).ts (wk σ b).ts σ (headEq_iff.1 h4).2.2.2 hg hr (.inl rfl) hkid (fun y hy => vb.kid h3 hy)
   exact ⟨g + 1, x, by rw [uniF, if_neg h1, if_neg h2, if_neg h3, if_pos h4]; exact h⟩
 · exact ⟨1, _, by rw [uniF, if_neg h1, if_neg h2, if_neg h3, if_neg h4]⟩
mutual
def Tm.flat : Tm → Nat → Bool
 | .mk _ _ _ _, 0 => false
 | .mk _ _ _ ts, d + 1 => tmsFlat ts d
def tmsFlat : List Tm → Nat → Bool
 | [], _ => true
 | t :: ts, d => t.flat d && tmsFlat ts d
end
theorem tmsFlat_all : ∀ (ts : List Tm) (d : Nat), tmsFlat ts d = ts.all fun t => t.flat d
 | [], _ => rfl
 | t :: ts, d => by simp only [tmsFlat, List.all_cons, tmsFlat_all ts d]
theorem Tm.flat_zero (t : Tm) : t.flat 0 = false := by cases t; simp only [Tm.flat]
theorem Tm.flat_succ (k n : Int) (s : ByteArray) (ts : List Tm) (d : Nat) : (Tm.mk k n s ts).flat (d + 1) = ts.all fun t => t.flat d := by simp only [Tm.flat, tmsFlat_all]
mutual
def Tm.okA : Tm → Bool
 | .mk k n s ts => ownOk k n s ts.length && tmsOkA ts
def tmsOkA : List Tm → Bool
 | [] => true
 | t :: ts => t.okA && tmsOkA ts
end
theorem tmsOkA_all : ∀ (ts : List Tm), tmsOkA ts = ts.all Tm.okA
 | [] => rfl
 | t :: ts => by simp only [tmsOkA, List.all_cons, tmsOkA_all ts]
theorem Tm.okA_mk (k n : Int) (s : ByteArray) (ts : List Tm) : (Tm.mk k n s ts).okA = (ownOk k n s ts.length && ts.all Tm.okA) := by simp only [Tm.okA, tmsOkA_all]
theorem all_and {α : Type} (p q : α → Bool) : ∀ l : List α, (l.all fun x => p x && q x) = (l.all p && l.all q)
 | [] => rfl
 | x :: l => by simp only [List.all_cons, all_and p q l]; cases p x <;> cases q x <;> cases l.all p <;> simp
theorem Tm.shape_flat : ∀ (t : Tm) (d : Nat), t.shape (d : Int) = (t.okA && t.flat d) := by
 intro t
 induction t using Tm.ind with
 | h k n s ts ih =>
  intro d
  cases d with
  | zero => rw [Tm.flat_zero, Bool.and_false, Tm.shape_mk]; rfl
  | succ d =>
   rw [Tm.shape_mk, Tm.okA_mk, Tm.flat_succ, show decide ((1 : Int) ≤ ((d + 1 : Nat) : Int)) = true by simp; omega, Bool.true_and, Bool.and_assoc, ← all_and]
   congr 1
   rw [show (((d + 1 : Nat) : Int) - 1) = (d : Int) by omega]
   have : ∀ l : List Tm, (∀ x ∈ l, x ∈ ts) → (l.all fun t => t.shape (d : Int)) = l.all fun x => x.okA && x.flat d := by
    intro l
    induction l with
    | nil => intro _; rfl
    | cons x l ihl => intro h; rw [List.all_cons, List.all_cons, ih x (h x (by simp)), ihl fun y hy => h y (by simp [hy])]
   exact this ts fun _ h => h
theorem Tm.valid_okA {t : Tm} (h : t.valid = true) : t.okA = true := by
 simp only [Tm.valid, Bool.and_eq_true] at h
 have := h.1
 rw [show (30 : Int) = ((30 : Nat) : Int) from rfl, Tm.shape_flat, Bool.and_eq_true] at this
 exact this.1
theorem Tm.valid_iff {t : Tm} (h : t.okA = true) : t.valid = (t.flat 30 && decide (t.nodes ≤ 120)) := by
 unfold Tm.valid
 rw [show (30 : Int) = ((30 : Nat) : Int) from rfl, Tm.shape_flat, h, Bool.true_and]
theorem okA_kids : ∀ t : Tm, t.k ≠ 1 → t.okA = true → ∀ x ∈ t.ts, x.okA = true := fun t _ h x hx => by
 cases t
 rw [Tm.okA_mk, Bool.and_eq_true] at h
 exact List.all_eq_true.1 h.2 x hx
theorem Tm.okA_own {k n : Int} {s : ByteArray} {ts : List Tm} (h : (Tm.mk k n s ts).okA = true) : ownOk k n s ts.length = true ∧ ∀ x ∈ ts, x.okA = true := by
 rw [Tm.okA_mk, Bool.and_eq_true] at h
 exact ⟨h.1, List.all_eq_true.1 h.2⟩
theorem ownOk_var {n : Int} {s : ByteArray} {len : Int} (h : ownOk 1 n s len = true) : 0 ≤ n ∧ n ≤ 25 ∧ s = ⟨#[]⟩ ∧ len = 0 := by
 simp [ownOk] at h
 exact ⟨h.1.1.1, h.1.1.2, h.1.2, h.2⟩
theorem ownOk_kind {k n : Int} {s : ByteArray} {len : Int} (h : ownOk k n s len = true) : (k = 1 ∨ k = 2 ∨ k = 3) ∧ len ≤ 4 := by
 unfold ownOk at h
 by_cases h1 : k = 1
 · simp [h1] at h; omega
 · by_cases h2 : k = 2
   · simp [h2] at h; omega
   · by_cases h3 : k = 3
     · simp [h3] at h; omega
     · simp [h1, h2, h3] at h
theorem Tm.okA_cv : ∀ (t : Tm), t.okA = true → t.cv = true := by
 intro t
 induction t using Tm.ind with
 | h k n s ts ih =>
  intro h
  obtain ⟨h1, h2⟩ := Tm.okA_own h
  refine Tm.cv_mk.2 ⟨fun hk => ?_, fun x hx => ih x hx (h2 x hx)⟩
  subst hk
  obtain ⟨_, _, h3, h4⟩ := ownOk_var h1
  exact ⟨h3, List.eq_nil_of_length_eq_zero (by omega)⟩
theorem Tm.okA_small : ∀ (t : Tm), t.okA = true → t.small = true := by
 intro t
 induction t using Tm.ind with
 | h k n s ts ih =>
  intro h
  obtain ⟨h1, h2⟩ := Tm.okA_own h
  have := (ownOk_kind h1).2
  simp only [Tm.small, tmsSmall_all, Bool.and_eq_true, decide_eq_true_eq, List.all_eq_true]
  exact ⟨by omega, fun x hx => ih x hx (h2 x hx)⟩
def V25 : List Int := (List.range 26).map fun i : Nat => (i : Int)
theorem mem_V25 {n : Int} : n ∈ V25 ↔ 0 ≤ n ∧ n ≤ 25 := by
 simp only [V25, List.mem_map, List.mem_range]
 constructor
 · rintro ⟨i, h, rfl⟩; omega
 · intro h; exact ⟨n.toNat, by omega, by omega⟩
theorem Tm.okA_inV : ∀ (t : Tm), t.okA = true → InV V25 t := by
 intro t
 induction t using Tm.ind with
 | h k n s ts ih =>
  intro h v hv
  obtain ⟨h1, h2⟩ := Tm.okA_own h
  by_cases hk : k = 1
  · rw [Tm.vl_var hk] at hv
    simp only [List.mem_cons, List.not_mem_nil, or_false] at hv
    subst hv hk
    obtain ⟨h3, h4, _⟩ := ownOk_var h1
    exact mem_V25.2 ⟨h3, h4⟩
  · obtain ⟨x, hx, hvx⟩ := (Tm.vl_mk hk).1 hv
    exact ih x hx (h2 x hx) v hvx
theorem mapv_okA {f : Int → Tm} : ∀ (t : Tm), t.okA = true → (∀ v ∈ t.vl, (f v).okA = true) → (t.mapv f).okA = true := by
 intro t
 induction t using Tm.ind with
 | h k n s ts ih =>
  intro h hf
  obtain ⟨h1, h2⟩ := Tm.okA_own h
  by_cases hk : k = 1
  · rw [Tm.mapv_var f hk]; exact hf n (by rw [Tm.vl_var hk]; simp)
  · rw [Tm.mapv_mk f hk, Tm.okA_mk, List.length_map, h1, Bool.true_and, List.all_map, List.all_eq_true]
    exact fun x hx => ih x hx (h2 x hx) fun v hv => hf v ((Tm.vl_mk hk).2 ⟨x, hx, hv⟩)
theorem vr_okA {n : Int} (h : n ∈ V25) : (vr n).okA = true := by
 rw [mem_V25] at h
 rw [vr, Tm.okA_mk]
 simp [ownOk, h]
theorem Good.okA {σ : Sub} {R : Int → Tm} {rk : Int → Nat} {B : Nat} (G : Good σ R rk B) (ho : AllS (fun t => t.okA = true) σ) : ∀ n ∈ V25, (R n).okA = true := by
 refine fun n => G.ind (p := fun n => n ∈ V25 → (R n).okA = true) (fun n h hn => ?_) (fun n u h ih hn => ?_) n
 · rw [G.free h]; exact vr_okA hn
 · rw [G.bound h]
   exact mapv_okA u (ho n u h) fun v hv => ih v hv (Tm.okA_inV u (ho n u h) v hv)
theorem Good.okT {σ : Sub} {R : Int → Tm} {rk : Int → Nat} {B : Nat} (G : Good σ R rk B) (ho : AllS (fun t => t.okA = true) σ) {t : Tm} (h : t.okA = true) : (t.mapv R).okA = true :=
 mapv_okA t h fun v hv => G.okA ho v (Tm.okA_inV t h v hv)
theorem uniF_det {g g' : Nat} {σ : Sub} {a b : Tm} {x y : Bool × Sub × List Int} (h : uniF g σ a b = some x) (h' : uniF g' σ a b = some y) : x = y := by
 have h1 := uniF_le (Nat.le_max_left g g') h
 rw [uniF_le (Nat.le_max_right g g') h'] at h1
 exact (Option.some.inj h1).symm
open Classical in
noncomputable def uniR (a b : Tm) : Bool × Sub × List Int := if h : ∃ x g, uniF g Sub.none a b = some x then h.choose else (false, Sub.none, [])
theorem uniR_eq {g : Nat} {a b : Tm} {x : Bool × Sub × List Int} (h : uniF g Sub.none a b = some x) : uniR a b = x := by
 unfold uniR
 have h' : ∃ x g, uniF g Sub.none a b = some x := ⟨x, g, h⟩
 rw [dif_pos h']
 obtain ⟨g', h''⟩ := h'.choose_spec
 exact uniF_det h'' h
noncomputable def bindsOf (σ : Sub) : List Bd := (List.range 26).filterMap fun i : Nat => (σ (i : Int)).map fun u => ((i : Int), u.mapv (rs σ))
noncomputable def uniB (a b : Tm) : Option (List Bd) :=
 if a.valid = true ∧ b.valid = true ∧ (uniR a b).1 = true ∧ ((bindsOf (uniR a b).2.1).all fun x => x.2.valid) = true then some (bindsOf (uniR a b).2.1) else none
structure Unif (a b : Tm) (r : Bool) (σ : Sub) (tr : List Int) : Prop where
 run : ∃ g, uniF g Sub.none a b = some (r, σ, tr)
 uni : Uni Sub.none [a] [b] r σ tr
 okA : AllS (fun t => t.okA = true) σ
 inV : RangeIn V25 σ
 trV : ∀ m ∈ tr, m ∈ V25
theorem Uni.out {σ : Sub} {a b : List Tm} {r : Bool} {tr : List Int} (h : Uni Sub.none a b r σ tr) {n : Int} {u : Tm} (e : σ n = some u) : n ∈ tr := by
 refine Classical.byContradiction fun hn => ?_
 rw [h.keep n hn] at e
 cases e
theorem unif_of {a b : Tm} (ha : a.valid = true) (hb : b.valid = true) : ∃ r σ tr, Unif a b r σ tr ∧ uniR a b = (r, σ, tr) := by
 have oa := Tm.valid_okA ha
 have ob := Tm.valid_okA hb
 have hn : RangeIn V25 Sub.none := fun n u h => (by cases h)
 obtain ⟨g, ⟨r, σ, tr⟩, h⟩ := uniF_total V25 _ _ Sub.none a b IsGood.none hn (Tm.okA_inV a oa) (Tm.okA_inV b ob) (Nat.le_refl _) (Nat.le_refl _)
 obtain ⟨h1, h2⟩ := (uni_inV g).1 Sub.none a b r σ tr V25 IsGood.none h hn (Tm.okA_inV a oa) (Tm.okA_inV b ob)
 exact ⟨r, σ, tr, ⟨⟨g, h⟩, uniF_uni IsGood.none h, (uni_all okA_kids g).1 Sub.none a b r σ tr IsGood.none h (fun n u h => (by cases h)) oa ob, h1, h2⟩, uniR_eq h⟩
theorem findB_filterMap (σ : Sub) (f : Tm → Tm) (n : Int) : ∀ l : List Nat, findB (l.filterMap fun i : Nat => (σ (i : Int)).map fun u => ((i : Int), f u)) n = if n ∈ l.map (fun i : Nat => (i : Int)) then (σ n).map f else none
 | [] => rfl
 | i :: l => by
  have ih := findB_filterMap σ f n l
  rw [List.filterMap_cons]
  cases h : σ (i : Int) with
  | none =>
   simp only [Option.map_none, ih, List.map_cons, List.mem_cons]
   by_cases h2 : n = (i : Int)
   · subst h2
     rw [h]
     simp
   · simp [h2]
  | some u =>
   simp only [Option.map_some, findB, List.map_cons, List.mem_cons, ih]
   by_cases h2 : (i : Int) = n
   · subst h2
     rw [h]
     simp
   · rw [if_neg h2]
     simp [Ne.symm h2]
theorem Unif.subB {a b : Tm} {r : Bool} {σ : Sub} {tr : List Int} (h : Unif a b r σ tr) : AW.subB (bindsOf σ) = rs σ := by
 obtain ⟨rk, B, G⟩ := h.uni.good.rs
 funext n
 have e : findB (bindsOf σ) n = if n ∈ V25 then (σ n).map (Tm.mapv (rs σ)) else none := findB_filterMap σ _ n _
 unfold AW.subB
 rw [e, G.sol n]
 split
 · cases σ n <;> rfl
 · rename_i hn
   cases hs : σ n with
   | none => rfl
   | some u => exact absurd (h.trV n (h.uni.out hs)) hn
theorem nodup_len : ∀ {l V : List Int}, l.Nodup → (∀ x ∈ l, x ∈ V) → l.length ≤ V.length
 | [], _, _, _ => Nat.zero_le _
 | x :: l, V, h, hV => by
  rw [List.nodup_cons] at h
  have hx := hV x (by simp)
  have := nodup_len (V := V.erase x) h.2 fun y hy => (List.mem_erase_of_ne (by rintro rfl; exact h.1 hy)).2 (hV y (by simp [hy]))
  rw [List.length_erase_of_mem hx] at this
  have := List.length_pos_of_mem hx
  simp only [List.length_cons]
  omega
theorem nodup_V25 {tr : List Int} (h : tr.Nodup) (hV : ∀ m ∈ tr, m ∈ V25) : tr.length ≤ 26 := by
 have := nodup_len h hV
 simpa [V25] using this
structure Fine (a b : Tm) (bs : List Bd) : Prop where
 va : a.valid = true
 vb : b.valid = true
 vs : (bs.all fun x => x.2.valid) = true
 eq : a.mapv (subB bs) = b.mapv (subB bs)
 idem : ∀ x ∈ bs, x.2.mapv (subB bs) = x.2
 sorted : bs.Pairwise fun x y => x.1 < y.1
abbrev zt : AV := .agg [.int .i64 0, .int .i64 0, .str ⟨#[]⟩, .fslice []]
def mapOf (σ : Sub) : Int → Option AV := fun n => (σ n).map Tm.av
def found : Option Tm → AV
 | some u => .tup [u.av, .bool true]
 | none => .tup [zt, .bool false]
theorem look_sub {P : Program} {st : zy7} {m : Nat} {σ : Sub} {t kt et : TypeId} {n : Int} (hm : st m = some (.map (mapOf σ))) (hu : P.underlying t = some (.map kt et)) (hk : P.underlying kt = some (.int .i64)) (hz : zV P et = some zt) :
 aLookup P st t true (.map m) (.int .i64 n) = some (found (σ n)) := by
 unfold aLookup
 simp only [hm, hu, hk, mapOf]
 cases h : σ n with
 | none => simp [hz, found, AV.isJunk]
 | some u => simp [found, Tm.av_junk]
theorem upd_sub {P : Program} {st : zy7} {m : Nat} {σ : Sub} {t kt et : TypeId} {n : Int} {u : Tm} {K : AV → zy7 → Prop} (hm : st m = some (.map (mapOf σ))) (hu : P.underlying t = some (.map kt et)) (hk : P.underlying kt = some (.int .i64))
 (h : K .undef (st.upd m (.map (mapOf (σ.set n u))))) : aMapUpdate P t st (.map m) (.int .i64 n) u.av K := by
 unfold aMapUpdate
 simp only [hu, hm, hk]
 refine ⟨Tm.av_junk u, ?_⟩
 have : mapSet (mapOf σ) n (some u.av) = mapOf (σ.set n u) := by
  funext x
  unfold mapSet mapOf Sub.set
  split <;> rfl
 rw [this]
 exact h
structure SubAt (st : zy7) (c m : Nat) (q : AV) (σ : Sub) : Prop where
 cells : st c = some (.cells [.map m, q])
 map : st m = some (.map (mapOf σ))
theorem SubAt.upd {st : zy7} {c m b : Nat} {q : AV} {σ : Sub} {o : AO} (h : SubAt st c m q σ) (hb : st b = none) : SubAt (st.upd b o) c m q σ :=
 ⟨(by rw [zy7.upd_ne _ _ (by rintro rfl; rw [h.cells] at hb; cases hb)]; exact h.cells), (by rw [zy7.upd_ne _ _ (by rintro rfl; rw [h.map] at hb; cases hb)]; exact h.map)⟩
theorem SubAt.upd2 {st : zy7} {c m b : Nat} {q : AV} {σ : Sub} {o : AO} (h : SubAt st c m q σ) (h1 : b ≠ c) (h2 : b ≠ m) : SubAt (st.upd b o) c m q σ :=
 ⟨(by rw [zy7.upd_ne _ _ (Ne.symm h1)]; exact h.cells), by rw [zy7.upd_ne _ _ (Ne.symm h2)]; exact h.map⟩
theorem SubAt.ne {st : zy7} {c m b : Nat} {q : AV} {σ : Sub} (h : SubAt st c m q σ) (hb : st b = none) : b ≠ c ∧ b ≠ m := ⟨(by rintro rfl; rw [h.cells] at hb; cases hb), (by rintro rfl; rw [h.map] at hb; cases hb)⟩
theorem SubAt.cm {st : zy7} {c m : Nat} {q : AV} {σ : Sub} (h : SubAt st c m q σ) : c ≠ m := by rintro rfl; have := h.cells; rw [h.map] at this; cases this
def metOf (M : List Int) : Int → Option AV := fun x => if x ∈ M then some (.bool true) else none
theorem look_met {P : Program} {st : zy7} {mm : Nat} {M : List Int} {t kt et : TypeId} {n : Int} (hm : st mm = some (.map (metOf M))) (hu : P.underlying t = some (.map kt et)) (hk : P.underlying kt = some (.int .i64)) (hz : zV P et = some (.bool false)) :
 aLookup P st t false (.map mm) (.int .i64 n) = some (.bool (decide (n ∈ M))) := by
 unfold aLookup
 simp only [hm, hu, hk, metOf]
 by_cases h : n ∈ M
 · simp [h, AV.isJunk]
 · simp [h, hz, AV.isJunk]
theorem upd_met {P : Program} {st : zy7} {mm : Nat} {M : List Int} {t kt et : TypeId} {n : Int} {K : AV → zy7 → Prop} (hm : st mm = some (.map (metOf M))) (hu : P.underlying t = some (.map kt et)) (hk : P.underlying kt = some (.int .i64))
 (h : K .undef (st.upd mm (.map (metOf (n :: M))))) : aMapUpdate P t st (.map mm) (.int .i64 n) (.bool true) K := by
 unfold aMapUpdate
 simp only [hu, hm, hk]
 refine ⟨rfl, ?_⟩
 have : mapSet (metOf M) n (some (.bool true)) = metOf (n :: M) := by
  funext x
  unfold mapSet metOf
  by_cases e : x = n
  · simp [e]
  · simp [e]
 rw [this]
 exact h
theorem metOf_nil : metOf [] = fun _ => none := by funext x; simp [metOf]
theorem vars_spec (t : Tm) : t.wf = true → ∀ l : List Int, (∀ v, v ∈ t.vars l ↔ v ∈ l ∨ v ∈ t.vl) ∧ (l.Nodup → (t.vars l).Nodup) ∧ ∃ m, t.vars l = l ++ m := by
 induction t using Tm.ind with
 | h k n s ts ih =>
  intro h l
  obtain ⟨hk, hw⟩ := Tm.wf_mk h
  have list : ∀ xs : List Tm, (∀ x ∈ xs, x ∈ ts) → ∀ l : List Int, (∀ v, v ∈ tmsVars xs l ↔ v ∈ l ∨ ∃ x ∈ xs, v ∈ x.vl) ∧ (l.Nodup → (tmsVars xs l).Nodup) ∧ ∃ m, tmsVars xs l = l ++ m := by
   intro xs
   induction xs with
   | nil => intro _ l; exact ⟨by simp [tmsVars], fun h => h, [], by simp [tmsVars]⟩
   | cons x xs ihx =>
    intro hs l
    obtain ⟨a1, a2, m1, a3⟩ := ih x (hs x (by simp)) (hw x (hs x (by simp))) l
    obtain ⟨b1, b2, m2, b3⟩ := ihx (fun y hy => hs y (by simp [hy])) (x.vars l)
    simp only [tmsVars]
    refine ⟨fun v => ?_, fun hn => b2 (a2 hn), m1 ++ m2, by rw [b3, a3, List.append_assoc]⟩
    rw [b1, a1]
    simp [or_assoc]
  rw [Tm.vars]
  by_cases hk1 : k = 1
  · obtain rfl := hk hk1
    rw [Tm.vl_var hk1]
    simp only [tmsVars]
    split
    · rename_i hc
      refine ⟨fun v => by simp, fun hn => ?_, [n], rfl⟩
      rw [List.nodup_append]
      refine ⟨hn, by simp, fun x hx y hy e => ?_⟩
      simp only [List.mem_cons, List.not_mem_nil, or_false] at hy
      subst hy e
      exact hc.2 hx
    · rename_i hc
      refine ⟨fun v => ?_, fun hn => hn, [], by simp⟩
      have hm : n ∈ l := Classical.byContradiction fun h => hc ⟨hk1, h⟩
      simp only [List.mem_cons, List.not_mem_nil, or_false]
      exact ⟨.inl, fun h => h.elim id fun e => e ▸ hm⟩
  · rw [if_neg (by simp [hk1])]
    obtain ⟨c1, c2, c3⟩ := list ts (fun _ h => h) l
    exact ⟨fun v => by rw [c1, Tm.vl_mk hk1], c2, c3⟩
theorem Tm.vars_mem {v : Int} : ∀ (t : Tm) (l : List Int), t.cv = true → (v ∈ t.vars l ↔ v ∈ l ∨ v ∈ t.vl) := by
 intro t
 induction t using Tm.ind with
 | h k n s ts ih =>
  intro l hcv
  obtain ⟨h1, h2⟩ := Tm.cv_mk.1 hcv
  have key : ∀ (ts : List Tm) (l : List Int), (∀ t ∈ ts, ∀ l, v ∈ t.vars l ↔ v ∈ l ∨ v ∈ t.vl) → (v ∈ tmsVars ts l ↔ v ∈ l ∨ ∃ t ∈ ts, v ∈ t.vl) := by
   intro ts
   induction ts with
   | nil => intro l _; simp [tmsVars]
   | cons t ts iht =>
    intro l h
    simp only [tmsVars]
    rw [iht _ (fun x hx => h x (by simp [hx])), h t (by simp)]
    simp [or_assoc]
  simp only [Tm.vars]
  rw [key ts _ (fun t ht l => ih t ht l (h2 t ht))]
  by_cases hk : k = 1
  · obtain ⟨rfl, rfl⟩ := h1 hk
    rw [Tm.vl_var hk]
    by_cases hn : n ∈ l
    · simp [hk, hn]; exact fun e => e ▸ hn
    · simp [hk, hn]
  · rw [Tm.vl_mk hk]; simp [hk]
theorem tmsVars_mem {v : Int} : ∀ (ts : List Tm) (l : List Int), (∀ t ∈ ts, t.cv = true) → (v ∈ tmsVars ts l ↔ v ∈ l ∨ ∃ t ∈ ts, v ∈ t.vl)
 | [], l, _ => by simp [tmsVars]
 | t :: ts, l, h => by
  simp only [tmsVars]
  rw [tmsVars_mem ts _ (fun x hx => h x (by simp [hx])), Tm.vars_mem t l (h t (by simp))]
  simp [or_assoc]
theorem within_no {σ : Sub} {R : Int → Tm} {rk : Int → Nat} {B : Nat} (G : Good σ R rk B) {n : Int} {W : List Int} (hW : ∀ w ∈ W, w ≠ n ∧ ∀ u, σ w = some u → ∀ v ∈ u.vl, v ∈ W) : ∀ w ∈ W, n ∉ (R w).vl := by
 refine fun w => G.ind (p := fun w => w ∈ W → n ∉ (R w).vl) (fun w h hw hm => ?_) (fun w u h ih hw hm => ?_) w
 · rw [G.free h, vl_vr] at hm
   simp only [List.mem_cons, List.not_mem_nil, or_false] at hm
   exact (hW w hw).1 hm.symm
 · rw [G.bound h] at hm
   obtain ⟨v, hv, hnv⟩ := (vl_mapv u).1 hm
   exact ih v hv ((hW w hw).2 u h v hv) hnv
theorem flat_mid {w : Nat} {l : List AV} {i : Nat} {e : AV} (hw : ∀ e ∈ l, e.width = w) (h : l[i]? = some e) :
 ∃ A B, l.flatMap AV.cells = A ++ e.cells ++ B ∧ A.length = i * w ∧ ∀ e', (l.set i e').flatMap AV.cells = A ++ e'.cells ++ B := by
 obtain ⟨hi, he⟩ := List.getElem?_eq_some_iff.1 h
 refine ⟨(l.take i).flatMap AV.cells, (l.drop (i + 1)).flatMap AV.cells, ?_, ?_, fun e' => ?_⟩
 · have : l = l.take i ++ e :: l.drop (i + 1) := by rw [← he, ← List.drop_eq_getElem_cons hi, List.take_append_drop]
   conv => lhs; rw [this]
   simp
 · rw [flat_length (fun e he => hw e (List.mem_of_mem_take he)), List.length_take, Nat.min_eq_left (by omega)]
 · rw [List.set_eq_take_append_cons_drop, if_pos hi]
   simp
def cellOf : Option Tm → AV
 | some u => u.av
 | none => zt
theorem cellOf_width (o : Option Tm) : (cellOf o).width = 4 := by cases o <;> first | rfl | exact Tm.av_width _
theorem cellOf_cells (o : Option Tm) : (cellOf o).cells.length = 4 := by rw [cells_width, cellOf_width]
theorem mapv_id : ∀ t : Tm, t.cv = true → t.mapv vr = t := by
 intro t
 induction t using Tm.ind with
 | h k n s ts ih =>
  intro h
  obtain ⟨h1, h2⟩ := Tm.cv_mk.1 h
  by_cases hk : k = 1
  · obtain ⟨rfl, rfl⟩ := h1 hk
    rw [Tm.mapv_var vr hk, hk]; rfl
  · rw [Tm.mapv_mk vr hk]
    congr 1
    have : ∀ l : List Tm, (∀ x ∈ l, x ∈ ts) → l.map (Tm.mapv vr) = l := by
     intro l
     induction l with
     | nil => intro _; rfl
     | cons x l ihl => intro hl; rw [List.map_cons, ih x (hl x (by simp)) (h2 x (hl x (by simp))), ihl fun y hy => hl y (by simp [hy])]
    exact this ts fun _ h => h
def renum (t : Tm) : Tm := t.mapv fun v => vr (idxI v (t.vars []) 0)
def renumL (l : List Tm) : List Tm := l.map fun t => t.mapv fun v => vr (idxI v (tmsVars l []) 0)
theorem vars_map {D : Int → Prop} {h : Int → Int} (inj : ∀ v w, D v → D w → h v = h w → v = w) {f : Int → Tm} (hf : ∀ v, D v → f v = vr (h v)) :
 ∀ (t : Tm), t.wf = true → (∀ v ∈ t.vl, D v) → ∀ l : List Int, (∀ v ∈ l, D v) → (t.mapv f).vars (l.map h) = (t.vars l).map h ∧ ∀ v ∈ t.vars l, D v := by
 intro t
 induction t using Tm.ind with
 | h k n s ts ih =>
  intro hw hD l hl
  obtain ⟨hk1, hws⟩ := Tm.wf_mk hw
  by_cases hk : k = 1
  · obtain rfl := hk1 hk
    have hDn : D n := hD n (by rw [Tm.vl_var hk]; simp)
    have hmem : h n ∈ l.map h ↔ n ∈ l := by
     rw [List.mem_map]
     exact ⟨fun ⟨m, hm, e⟩ => by rw [← inj m n (hl m hm) hDn e]; exact hm, fun hm => ⟨n, hm, rfl⟩⟩
    rw [Tm.mapv_var f hk, hf n hDn, vr, Tm.vars, Tm.vars]
    simp only [tmsVars, hk, true_and, hmem]
    split
    · exact ⟨by simp, fun v hv => by
       rcases List.mem_append.1 hv with hv | hv
       · exact hl v hv
       · simp only [List.mem_cons, List.not_mem_nil, or_false] at hv; rw [hv]; exact hDn⟩
    · exact ⟨rfl, hl⟩
  · rw [Tm.mapv_mk f hk, Tm.vars, Tm.vars, if_neg (fun h => hk h.1), if_neg (fun h => hk h.1)]
    have : ∀ xs : List Tm, (∀ x ∈ xs, x ∈ ts) → ∀ l : List Int, (∀ v ∈ l, D v) → tmsVars (xs.map (Tm.mapv f)) (l.map h) = (tmsVars xs l).map h ∧ ∀ v ∈ tmsVars xs l, D v := by
     intro xs
     induction xs with
     | nil => intro _ l hl; exact ⟨rfl, hl⟩
     | cons x xs ihx =>
      intro hs l hl
      have hx := hs x (by simp)
      obtain ⟨e1, e2⟩ := ih x hx (hws x hx) (fun v hv => hD v ((Tm.vl_mk hk).2 ⟨x, hx, hv⟩)) l hl
      simp only [List.map_cons, tmsVars]
      rw [e1]
      exact ihx (fun y hy => hs y (by simp [hy])) _ e2
    exact this ts (fun _ h => h) l hl
theorem idxI_map {D : Int → Prop} {h : Int → Int} (inj : ∀ v w, D v → D w → h v = h w → v = w) (v : Int) (hv : D v) : ∀ (l : List Int) (i : Int), (∀ w ∈ l, D w) → idxI (h v) (l.map h) i = idxI v l i
 | [], i, _ => rfl
 | x :: l, i, hl => by
  simp only [List.map_cons, idxI]
  by_cases e : v = x
  · rw [if_pos e, if_pos (by rw [e])]
  · rw [if_neg e, if_neg (fun e2 => e (inj v x hv (hl x (by simp)) e2))]
    exact idxI_map inj v hv l (i + 1) fun w hw => hl w (by simp [hw])
def arNames : List ByteArray := [⟨#[43]⟩, ⟨#[45]⟩, ⟨#[42]⟩, ⟨#[47, 47]⟩, ⟨#[109, 111, 100]⟩]
def cmpNames : List ByteArray := [⟨#[60]⟩, ⟨#[62]⟩, ⟨#[61, 60]⟩, ⟨#[62, 61]⟩, ⟨#[61, 58, 61]⟩]
def inN (l : List ByteArray) (s : ByteArray) : Bool := l.any fun x => decide (s = x)
def ranged (n : Int) : Int × Int := if -999 ≤ n ∧ n ≤ 999 then (n, 0) else (0, 5)
def fmodI (a b : Int) : Int := if a.tmod b ≠ 0 ∧ decide (a.tmod b < 0) ≠ decide (b < 0) then a.tmod b + b else a.tmod b
def arOp (s : ByteArray) (a b : Int) : Int × Int :=
 if s = ⟨#[43]⟩ then ranged (a + b) else if s = ⟨#[45]⟩ then ranged (a - b) else if s = ⟨#[42]⟩ then ranged (a * b) else if b = 0 then (0, 4) else if s = ⟨#[109, 111, 100]⟩ then (fmodI a b, 0) else (a.tdiv b, 0)
def both (f : Int → Int → Int × Int) (x y : Int × Int) : Int × Int := if x.2 ≠ 0 then (0, x.2) else if y.2 ≠ 0 then (0, y.2) else f x.1 y.1
def two (f : Int → Int → Int × Int) : List (Int × Int) → Int × Int
 | [x, y] => both f x y
 | _ => (0, 3)
mutual
def Tm.ev : Tm → Int × Int
 | .mk k n s ts => if k = 2 then (n, 0) else if k = 1 then (0, 2) else if inN arNames s = true then two (arOp s) (tmsEv ts) else (0, 3)
def tmsEv : List Tm → List (Int × Int)
 | [] => []
 | t :: ts => t.ev :: tmsEv ts
end
theorem tmsEv_map : ∀ ts : List Tm, tmsEv ts = ts.map Tm.ev
 | [] => rfl
 | t :: ts => by simp only [tmsEv, List.map_cons, tmsEv_map ts]
theorem Tm.ev_mk (k n : Int) (s : ByteArray) (ts : List Tm) : (Tm.mk k n s ts).ev = if k = 2 then (n, 0) else if k = 1 then (0, 2) else if inN arNames s = true then two (arOp s) (ts.map Tm.ev) else (0, 3) := by simp only [Tm.ev, tmsEv_map]
theorem tmod_lt (a b : Int) (hb : b ≠ 0) : (0 < b → -b < a.tmod b ∧ a.tmod b < b) ∧ (b < 0 → b < a.tmod b ∧ a.tmod b < -b) := by
 have h1 := Int.tmod_lt_of_pos (-a) (b := b)
 have h2 := Int.tmod_lt_of_pos a (b := b)
 have h3 := Int.tmod_lt_of_pos (-a) (b := -b)
 have h4 := Int.tmod_lt_of_pos a (b := -b)
 rw [Int.tmod_neg] at h3 h4
 rw [Int.neg_tmod] at h1 h3
 constructor
 · intro h; exact ⟨by have := h1 h; omega, h2 h⟩
 · intro h; exact ⟨by have := h3 (by omega); omega, h4 (by omega)⟩
theorem tdiv_le (a b : Int) (ha : -999 ≤ a ∧ a ≤ 999) : -999 ≤ a.tdiv b ∧ a.tdiv b ≤ 999 := by
 have : (a.tdiv b).natAbs ≤ a.natAbs := by rw [Int.natAbs_tdiv]; exact Nat.div_le_self _ _
 omega
theorem ranged_le (n : Int) : -999 ≤ (ranged n).1 ∧ (ranged n).1 ≤ 999 := by unfold ranged; split <;> simp_all
theorem fmodI_le (a b : Int) (ha : -999 ≤ a ∧ a ≤ 999) (hb : -999 ≤ b ∧ b ≤ 999) (h0 : b ≠ 0) : -999 ≤ fmodI a b ∧ fmodI a b ≤ 999 := by
 have h1 := tmod_lt a b h0
 unfold fmodI
 split
 · rename_i h
   have h2 := h.2
   by_cases hb' : b < 0
   · have : ¬ a.tmod b < 0 := by intro hc; simp [hb', hc] at h2
     have := h1.2 hb'
     omega
   · have : a.tmod b < 0 := by
      apply Classical.byContradiction; intro hc; simp [hb', hc] at h2
     have := h1.1 (by omega)
     omega
 · rcases Int.lt_or_gt_of_ne h0 with h | h
   · have := h1.2 h; omega
   · have := h1.1 h; omega
theorem add_tmod_aux (m b : Int) (h1 : 0 ≤ m) (h2 : m < b) : (m + b).tmod b = m := by
 obtain ⟨x, rfl⟩ : ∃ x : Nat, m = x := ⟨m.toNat, by omega⟩
 obtain ⟨y, rfl⟩ : ∃ y : Nat, b = y := ⟨b.toNat, by omega⟩
 rw [show (x : Int) + (y : Int) = ((x + y : Nat) : Int) by omega, ← Int.ofNat_tmod, Nat.add_mod_right, Nat.mod_eq_of_lt (by omega)]
theorem fmodI_eq (a b : Int) (h0 : b ≠ 0) : (a.tmod b + b).tmod b = fmodI a b := by
 have h1 := tmod_lt a b h0
 have hs : ∀ x : Int, 0 ≤ x → x < b → x.tmod b = x := fun x h2 h3 => Int.tmod_eq_of_lt h2 h3
 have hn : ∀ x : Int, x ≤ 0 → b < x → x.tmod b = x := fun x h2 h3 => by
  have := Int.tmod_eq_of_lt (a := -x) (b := -b) (by omega) (by omega)
  rw [Int.tmod_neg, Int.neg_tmod] at this
  omega
 unfold fmodI
 generalize a.tmod b = m at *
 by_cases hb : b < 0
 · have h2 := h1.2 hb
   by_cases hm : m < 0
   · rw [if_neg (by simp [hb, hm])]
     rw [show m + b = b + m by omega]
     have e : (b + m).tmod b = ((-b) + (-m)).tmod (-b) * (-1) := by
      rw [show (-b) + (-m) = -(b + m) by omega, Int.neg_tmod, Int.tmod_neg]; omega
     rw [e, Int.add_comm, add_tmod_aux (-m) (-b) (by omega) (by omega)]
     omega
   · by_cases hm0 : m = 0
     · subst hm0; rw [if_neg (by simp), Int.zero_add, Int.tmod_self]
     · rw [if_pos ⟨hm0, by simp [hb, hm]⟩]
       exact hn _ (by omega) (by omega)
 · have h2 := h1.1 (by omega)
   by_cases hm : m < 0
   · rw [if_pos ⟨by omega, by simp [hb, hm]⟩]
     exact hs _ (by omega) (by omega)
   · rw [if_neg (by simp [hb, hm])]
     rw [add_tmod_aux m b (by omega) (by omega)]
def OkV (N : Int) (t : Tm) : Prop := (t.mapv fun _ => vr 0).okA = true ∧ t.cv = true ∧ ∀ v ∈ t.vl, 0 ≤ v ∧ v < N
theorem OkV.mono {N M : Int} {t : Tm} (h : OkV N t) (hm : N ≤ M) : OkV M t := ⟨h.1, h.2.1, fun v hv => ⟨(h.2.2 v hv).1, by have := (h.2.2 v hv).2; omega⟩⟩
theorem OkV.own {N k n : Int} {s : ByteArray} {ts : List Tm} (h : OkV N (.mk k n s ts)) (hk : k ≠ 1) : ownOk k n s ts.length = true ∧ ∀ x ∈ ts, OkV N x := by
 obtain ⟨h1, h2, h3⟩ := h
 rw [Tm.mapv_mk _ hk] at h1
 obtain ⟨h4, h5⟩ := Tm.okA_own h1
 rw [List.length_map] at h4
 exact ⟨h4, fun x hx => ⟨h5 _ (List.mem_map.2 ⟨x, hx, rfl⟩), (Tm.cv_mk.1 h2).2 x hx, fun v hv => h3 v ((Tm.vl_mk hk).2 ⟨x, hx, hv⟩)⟩⟩
theorem OkV.var {N n : Int} {s : ByteArray} {ts : List Tm} (h : OkV N (.mk 1 n s ts)) : 0 ≤ n ∧ n < N ∧ s = ⟨#[]⟩ ∧ ts = [] := by
 obtain ⟨_, h2, h3⟩ := h
 obtain ⟨h4, h5⟩ := (Tm.cv_mk.1 h2).1 rfl
 obtain ⟨h6, h7⟩ := h3 n (by rw [Tm.vl_var rfl]; simp)
 exact ⟨h6, h7, h4, h5⟩
theorem okV_kids (N : Int) : ∀ t : Tm, t.k ≠ 1 → OkV N t → ∀ x ∈ t.ts, OkV N x := fun t hk h x hx => by
 cases t
 exact (h.own hk).2 x hx
theorem OkV.kind {N k n : Int} {s : ByteArray} {ts : List Tm} (h : OkV N (.mk k n s ts)) : (k = 1 ∨ k = 2 ∨ k = 3) ∧ ts.length ≤ 4 := by
 by_cases hk : k = 1
 · subst hk
   rw [h.var.2.2.2]
   simp
 · have := ownOk_kind (h.own hk).1
   omega
theorem ownOk_int' {n : Int} {s : ByteArray} {len : Int} (h : ownOk 2 n s len = true) : -999 ≤ n ∧ n ≤ 999 := by
 simp [ownOk] at h
 omega
theorem OkV.all {N k n : Int} {s : ByteArray} {ts : List Tm} (h : OkV N (.mk k n s ts)) : (k = 2 → -999 ≤ n ∧ n ≤ 999) ∧ ∀ x ∈ ts, OkV N x := by
 by_cases hk : k = 1
 · subst hk
   rw [h.var.2.2.2]
   simp
 · obtain ⟨h1, h2⟩ := h.own hk
   refine ⟨fun h2 => ?_, h2⟩
   subst h2
   exact ownOk_int' h1
theorem OkV.small {N : Int} : ∀ {t : Tm}, OkV N t → t.small = true := by
 intro t
 induction t using Tm.ind with
 | h k n s ts ih =>
  intro h
  have h4 := h.kind.2
  simp only [Tm.small, tmsSmall_all, Bool.and_eq_true, decide_eq_true_eq, List.all_eq_true]
  refine ⟨by omega, fun x hx => ?_⟩
  by_cases hk : k = 1
  · subst hk; rw [h.var.2.2.2] at hx; cases hx
  · exact ih x hx ((h.own hk).2 x hx)
theorem OkV.mapv {N M : Int} {f : Int → Tm} {t : Tm} (h : OkV N t) (hf : ∀ v ∈ t.vl, OkV M (f v)) : OkV M (t.mapv f) := by
 induction t using Tm.ind with
 | h k n s ts ih =>
  by_cases hk : k = 1
  · rw [Tm.mapv_var f hk]; exact hf n (by rw [Tm.vl_var hk]; simp)
  · obtain ⟨h1, h2⟩ := h.own hk
    have key : ∀ x ∈ ts, OkV M (x.mapv f) := fun x hx => ih x hx (h2 x hx) fun v hv => hf v ((Tm.vl_mk hk).2 ⟨x, hx, hv⟩)
    rw [Tm.mapv_mk f hk]
    refine ⟨?_, Tm.cv_mk.2 ⟨fun h => absurd h hk, fun y hy => ?_⟩, fun v hv => ?_⟩
    · rw [Tm.mapv_mk _ hk, Tm.okA_mk, List.length_map, List.length_map, h1, Bool.true_and, List.all_eq_true]
      intro y hy
      simp only [List.map_map, List.mem_map, Function.comp_apply] at hy
      obtain ⟨x, hx, rfl⟩ := hy
      exact (key x hx).1
    · obtain ⟨x, hx, rfl⟩ := List.mem_map.1 hy
      exact (key x hx).2.1
    · obtain ⟨y, hy, hv⟩ := (Tm.vl_mk hk).1 hv
      obtain ⟨x, hx, rfl⟩ := List.mem_map.1 hy
      exact (key x hx).2.2 v hv
theorem okV_vr {N n : Int} (h0 : 0 ≤ n) (h1 : n < N) : OkV N (vr n) := by
 refine ⟨by rw [mapv_vr]; exact vr_okA (mem_V25.2 (by omega)), Tm.cv_mk.2 ⟨fun _ => ⟨rfl, rfl⟩, by simp⟩, fun v hv => ?_⟩
 rw [vl_vr] at hv
 simp only [List.mem_cons, List.not_mem_nil, or_false] at hv
 omega
theorem okV_26 {t : Tm} : t.okA = true ↔ OkV 26 t := by
 constructor
 · intro h
   refine ⟨mapv_okA t h fun v _ => vr_okA (mem_V25.2 (by omega)), Tm.okA_cv t h, fun v hv => ?_⟩
   have := mem_V25.1 (Tm.okA_inV t h v hv)
   omega
 · induction t using Tm.ind with
   | h k n s ts ih =>
    intro h
    rw [Tm.okA_mk]
    by_cases hk : k = 1
    · subst hk
      obtain ⟨h0, h1, rfl, rfl⟩ := h.var
      have h1' : n ≤ 25 := by omega
      simp [ownOk, h0, h1']
    · obtain ⟨h1, h2⟩ := h.own hk
      rw [h1, Bool.true_and, List.all_eq_true]
      exact fun x hx => ih x hx (h2 x hx)
theorem Tm.valid_okV {t : Tm} (h : t.valid = true) : OkV 26 t := okV_26.1 (Tm.valid_okA h)
theorem Good.okV {σ : Sub} {R : Int → Tm} {rk : Int → Nat} {B : Nat} (G : Good σ R rk B) {N : Int} (ho : AllS (OkV N) σ) : ∀ n, 0 ≤ n → n < N → OkV N (R n) := by
 refine fun n => G.ind (p := fun n => 0 ≤ n → n < N → OkV N (R n)) (fun n h h0 h1 => ?_) (fun n u h ih h0 h1 => ?_) n
 · rw [G.free h]; exact okV_vr h0 h1
 · rw [G.bound h]
   exact (ho n u h).mapv fun v hv => ih v hv ((ho n u h).2.2 v hv).1 ((ho n u h).2.2 v hv).2
theorem Good.okVT {σ : Sub} {R : Int → Tm} {rk : Int → Nat} {B : Nat} (G : Good σ R rk B) {N : Int} (ho : AllS (OkV N) σ) {t : Tm} (h : OkV N t) : OkV N (t.mapv R) :=
 h.mapv fun v hv => G.okV ho v (h.2.2 v hv).1 (h.2.2 v hv).2
def OkX (N : Int) (t : Tm) : Prop := OkV N t ∧ t.nodes ≤ 120
theorem okX_kids (N : Int) : ∀ t : Tm, t.k ≠ 1 → OkX N t → ∀ x ∈ t.ts, OkX N x := fun t hk h x hx => by
 refine ⟨okV_kids N t hk h.1 x hx, ?_⟩
 have h2 := h.2
 cases t
 rw [Tm.nodes_mk] at h2
 have := sumL_mem (f := Tm.nodes) hx
 simp only [Tm.ts] at this
 omega
theorem OkX.mono {N M : Int} {t : Tm} (h : OkX N t) (hm : N ≤ M) : OkX M t := ⟨h.1.mono hm, h.2⟩
theorem AllS.okV {N : Int} {σ : Sub} (h : AllS (OkX N) σ) : AllS (OkV N) σ := fun n u e => (h n u e).1
theorem AllS.imp {p q : Tm → Prop} {σ : Sub} (h : AllS p σ) (hpq : ∀ t, p t → q t) : AllS q σ := fun n u e => hpq u (h n u e)
open Classical in
noncomputable def uniG (σ : Sub) (a b : Tm) : Bool × Sub × List Int := if h : ∃ x g, uniF g σ a b = some x then h.choose else (false, σ, [])
theorem uniG_eq {g : Nat} {σ : Sub} {a b : Tm} {x : Bool × Sub × List Int} (h : uniF g σ a b = some x) : uniG σ a b = x := by
 unfold uniG
 have h' : ∃ x g, uniF g σ a b = some x := ⟨x, g, h⟩
 rw [dif_pos h']
 obtain ⟨g', h''⟩ := h'.choose_spec
 exact uniF_det h'' h
def VN (N : Nat) : List Int := (List.range N).map fun i : Nat => (i : Int)
theorem mem_VN {N : Nat} {n : Int} : n ∈ VN N ↔ 0 ≤ n ∧ n < N := by
 simp only [VN, List.mem_map, List.mem_range]
 constructor
 · rintro ⟨i, h, rfl⟩; omega
 · intro h; exact ⟨n.toNat, by omega, by omega⟩
theorem nodup_VN {N : Nat} {tr : List Int} (h : tr.Nodup) (hV : ∀ m ∈ tr, 0 ≤ m ∧ m < N) : tr.length ≤ N := by
 have := nodup_len (V := VN N) h fun x hx => mem_VN.2 (hV x hx)
 simpa [VN] using this
structure UniG (N : Int) (σ : Sub) (a b : Tm) (r : Bool) (σ' : Sub) (tr : List Int) : Prop where
 run : ∃ g, uniF g σ a b = some (r, σ', tr)
 eq : uniG σ a b = (r, σ', tr)
 uni : Uni σ [a] [b] r σ' tr
 ok : AllS (OkX N) σ'
 inN : ∀ m ∈ tr, 0 ≤ m ∧ m < N
theorem uniG_of {N : Nat} {σ : Sub} {a b : Tm} (hg : IsGood σ) (ho : AllS (OkX N) σ) (ha : OkX N a) (hb : OkX N b) : ∃ r σ' tr, UniG N σ a b r σ' tr := by
 have hin : ∀ {t : Tm}, OkX N t → InV (VN N) t := fun h v hv => mem_VN.2 (h.1.2.2 v hv)
 have hr : RangeIn (VN N) σ := fun n u e => hin (ho n u e)
 obtain ⟨g, ⟨r, σ', tr⟩, h⟩ := uniF_total (VN N) _ _ σ a b hg hr (hin ha) (hin hb) (Nat.le_refl _) (Nat.le_refl _)
 obtain ⟨h1, h2⟩ := (uni_inV g).1 σ a b r σ' tr (VN N) hg h hr (hin ha) (hin hb)
 exact ⟨r, σ', tr, ⟨g, h⟩, uniG_eq h, uniF_uni hg h, (uni_all (okX_kids N) g).1 σ a b r σ' tr hg h ho ha hb, fun m hm => mem_VN.1 (h2 m hm)⟩
theorem UniG.out {N : Int} {σ : Sub} {a b : Tm} {r : Bool} {σ' : Sub} {tr : List Int} (h : UniG N σ a b r σ' tr) (n : Int) : (if n ∈ tr then none else σ' n) = σ n := by
 split
 · rename_i hn; exact ((h.uni.new n hn).1).symm
 · rename_i hn; exact h.uni.keep n hn
def Sub.out (σ : Sub) (l : List Int) : Sub := fun n => if n ∈ l then Option.none else σ n
theorem Sub.out_out (σ : Sub) (l m : List Int) : (σ.out l).out m = σ.out (l ++ m) := by
 funext n
 unfold Sub.out
 by_cases h1 : n ∈ m
 · rw [if_pos h1, if_pos (by simp [h1])]
 · rw [if_neg h1]
   by_cases h2 : n ∈ l
   · rw [if_pos h2, if_pos (by simp [h2])]
   · rw [if_neg h2, if_neg (by simp [h1, h2])]
theorem Sub.out_perm (σ : Sub) {l m : List Int} (h : ∀ n, n ∈ l ↔ n ∈ m) : σ.out l = σ.out m := by
 funext n
 unfold Sub.out
 simp only [h n]
def ren (ρ : Int → Int) (t : Tm) : Tm := t.mapv fun v => vr (ρ v)
theorem ren_vr (ρ : Int → Int) (n : Int) : ren ρ (vr n) = vr (ρ n) := mapv_vr _ n
theorem ren_mk (ρ : Int → Int) {k n : Int} {s : ByteArray} {ts : List Tm} (h : k ≠ 1) : ren ρ (.mk k n s ts) = .mk k n s (ts.map (ren ρ)) := Tm.mapv_mk _ h
theorem ren_var (ρ : Int → Int) {t : Tm} (h : t.k = 1) : ren ρ t = vr (ρ t.n) := Tm.mapv_k1 _ h
theorem ren_ne (ρ : Int → Int) {t : Tm} (h : t.k ≠ 1) : ren ρ t = .mk t.k t.n t.s (t.ts.map (ren ρ)) := Tm.mapv_k _ h
theorem ren_k (ρ : Int → Int) (t : Tm) : (ren ρ t).k = t.k := by
 by_cases h : t.k = 1
 · rw [ren_var ρ h, h]; rfl
 · rw [ren_ne ρ h]; rfl
theorem ren_nodes (ρ : Int → Int) {t : Tm} (hc : t.cv = true) : (ren ρ t).nodes = t.nodes := by
 induction t using Tm.ind with
 | h k n s ts ih =>
  obtain ⟨h1, h2⟩ := Tm.cv_mk.1 hc
  by_cases hk : k = 1
  · obtain ⟨_, rfl⟩ := h1 hk
    rw [ren_var ρ (t := .mk k n s []) hk, vr, Tm.nodes_mk, Tm.nodes_mk]
  · rw [ren_mk ρ hk, Tm.nodes_mk, Tm.nodes_mk]
    congr 1
    have : ∀ l : List Tm, (∀ x ∈ l, x ∈ ts) → sumL Tm.nodes (l.map (ren ρ)) = sumL Tm.nodes l := by
     intro l
     induction l with
     | nil => intro _; rfl
     | cons x l ihl => intro h; simp only [List.map_cons, sumL]; rw [ih x (h x (by simp)) (h2 x (h x (by simp))), ihl fun y hy => h y (by simp [hy])]
    exact this ts fun _ h => h
theorem ren_flat (ρ : Int → Int) {t : Tm} (hc : t.cv = true) : ∀ d, (ren ρ t).flat d = t.flat d := by
 induction t using Tm.ind with
 | h k n s ts ih =>
  intro d
  obtain ⟨h1, h2⟩ := Tm.cv_mk.1 hc
  cases d with
  | zero => rw [Tm.flat_zero, Tm.flat_zero]
  | succ d =>
   by_cases hk : k = 1
   · obtain ⟨_, rfl⟩ := h1 hk
     rw [ren_var ρ (t := .mk k n s []) hk, vr, Tm.flat_succ, Tm.flat_succ]
   · rw [ren_mk ρ hk, Tm.flat_succ, Tm.flat_succ, List.all_map]
     rw [Bool.eq_iff_iff, List.all_eq_true, List.all_eq_true]
     constructor
     · intro h x hx; rw [← ih x hx (h2 x hx) d]; exact h x hx
     · intro h x hx; simp only [Function.comp_apply]; rw [ih x hx (h2 x hx) d]; exact h x hx
theorem vl_ren {ρ : Int → Int} {t : Tm} {w : Int} : w ∈ (ren ρ t).vl ↔ ∃ v ∈ t.vl, w = ρ v := by
 unfold ren
 rw [vl_mapv]
 simp only [vl_vr, List.mem_cons, List.not_mem_nil, or_false]
theorem ren_congr {ρ ρ' : Int → Int} {t : Tm} (h : ∀ v ∈ t.vl, ρ v = ρ' v) : ren ρ t = ren ρ' t := mapv_congr t fun v hv => by rw [h v hv]
theorem ren_mapv (ρ : Int → Int) (f : Int → Tm) (t : Tm) : (ren ρ t).mapv f = t.mapv fun v => f (ρ v) := by
 unfold ren
 rw [mapv_mapv]
 exact mapv_congr t fun v _ => mapv_vr f (ρ v)
theorem mapv_ren (ρ : Int → Int) (f : Int → Tm) (t : Tm) : ren ρ (t.mapv f) = t.mapv fun v => ren ρ (f v) := by
 unfold ren
 rw [mapv_mapv]
theorem OkV.ren {N M : Int} {ρ : Int → Int} {t : Tm} (h : OkV N t) (hr : ∀ v ∈ t.vl, 0 ≤ ρ v ∧ ρ v < M) : OkV M (AW.ren ρ t) := h.mapv fun v hv => okV_vr (hr v hv).1 (hr v hv).2
theorem OkX.ren {N M : Int} {ρ : Int → Int} {t : Tm} (h : OkX N t) (hr : ∀ v ∈ t.vl, 0 ≤ ρ v ∧ ρ v < M) : OkX M (AW.ren ρ t) := ⟨h.1.ren hr, by rw [ren_nodes ρ h.1.2.1]; exact h.2⟩
structure Sim (ρ : Int → Int) (N : Int) (σ τ : Sub) : Prop where
 inj : ∀ v w, 0 ≤ v → v < N → 0 ≤ w → w < N → ρ v = ρ w → v = w
 map : ∀ v, 0 ≤ v → v < N → τ (ρ v) = (σ v).map (ren ρ)
section
variable {ρ : Int → Int} {N : Int} {σ τ : Sub}
theorem Sim.wk (S : Sim ρ N σ τ) (ho : AllS (OkV N) σ) {f : Nat} {t u : Tm} (h : WkN σ f t u) : OkV N t → WkN τ f (ren ρ t) (ren ρ u) := by
 induction h with
 | @stop t h =>
  intro ht
  refine .stop fun hk => ?_
  rw [ren_k] at hk
  have hr := ht.2.2 t.n (by rw [Tm.vl_k1 hk]; simp)
  rw [ren_var ρ hk]
  show τ (ρ t.n) = none
  rw [S.map _ hr.1 hr.2, h hk]; rfl
 | @go f t u v h1 h2 _ ih =>
  intro ht
  have hr := ht.2.2 t.n (by rw [Tm.vl_k1 h1]; simp)
  refine .go (u := ren ρ u) (by rw [ren_k]; exact h1) ?_ (ih (ho _ _ h2))
  rw [ren_var ρ h1]
  show τ (ρ t.n) = _
  rw [S.map _ hr.1 hr.2, h2]; rfl
theorem Sim.rs (S : Sim ρ N σ τ) (hg : IsGood σ) (hg' : IsGood τ) (ho : AllS (OkV N) σ) : ∀ v, 0 ≤ v → v < N → rs τ (ρ v) = ren ρ (rs σ v) := by
 obtain ⟨rk, B, G⟩ := hg.rs
 obtain ⟨rk', B', G'⟩ := hg'.rs
 refine fun v => G.ind (p := fun v => 0 ≤ v → v < N → AW.rs τ (ρ v) = ren ρ (AW.rs σ v)) (fun v h h0 h1 => ?_) (fun v u h ih h0 h1 => ?_) v
 · rw [G.free h, ren_vr, G'.free (by rw [S.map v h0 h1, h]; rfl)]
 · rw [G.bound h, mapv_ren, G'.bound (u := ren ρ u) (by rw [S.map v h0 h1, h]; rfl), ren_mapv]
   refine mapv_congr u fun w hw => ?_
   have := (ho v u h).2.2 w hw
   exact ih w hw this.1 this.2
theorem Sim.rsT (S : Sim ρ N σ τ) (hg : IsGood σ) (hg' : IsGood τ) (ho : AllS (OkV N) σ) {t : Tm} (ht : OkV N t) : (ren ρ t).mapv (AW.rs τ) = ren ρ (t.mapv (AW.rs σ)) := by
 rw [ren_mapv, mapv_ren]
 exact mapv_congr t fun v hv => S.rs hg hg' ho v (ht.2.2 v hv).1 (ht.2.2 v hv).2
theorem Sim.mem (S : Sim ρ N σ τ) {t : Tm} (ht : OkV N t) {n : Int} (h0 : 0 ≤ n) (h1 : n < N) : ρ n ∈ (ren ρ t).vl ↔ n ∈ t.vl := by
 rw [vl_ren]
 constructor
 · rintro ⟨v, hv, e⟩
   rw [S.inj n v h0 h1 (ht.2.2 v hv).1 (ht.2.2 v hv).2 e]; exact hv
 · exact fun h => ⟨n, h, rfl⟩
theorem Sim.set (S : Sim ρ N σ τ) {n : Int} (h0 : 0 ≤ n) (h1 : n < N) (t : Tm) : Sim ρ N (σ.set n t) (τ.set (ρ n) (ren ρ t)) := by
 refine ⟨S.inj, fun v hv0 hv1 => ?_⟩
 unfold Sub.set
 by_cases h : v = n
 · subst h; simp
 · rw [if_neg (fun e => h (S.inj v n hv0 hv1 h0 h1 e)), if_neg h, S.map v hv0 hv1]
theorem Sim.bnd (S : Sim ρ N σ τ) (hg : IsGood σ) (hg' : IsGood τ) (ho : AllS (OkV N) σ) {n : Int} (h0 : 0 ≤ n) (h1 : n < N) {t : Tm} (ht : OkV N t) {r : Bool} {σ' : Sub} {tr : List Int} (h : bnd σ n t = (r, σ', tr)) :
 ∃ τ', AW.bnd τ (ρ n) (ren ρ t) = (r, τ', tr.map ρ) ∧ Sim ρ N σ' τ' := by
 obtain ⟨rk, B, G⟩ := hg.rs
 have e := S.mem (G.okVT ho ht) h0 h1
 rw [← S.rsT hg hg' ho ht] at e
 unfold AW.bnd at h ⊢
 by_cases hm : n ∈ (t.mapv (AW.rs σ)).vl
 · rw [if_pos hm] at h
   rw [if_pos (e.2 hm)]
   cases h
   exact ⟨τ, rfl, S⟩
 · rw [if_neg hm] at h
   rw [if_neg (fun h => hm (e.1 h))]
   cases h
   exact ⟨_, rfl, S.set h0 h1 t⟩
theorem headEq_ren {a b : Tm} (ha : a.k ≠ 1) (hb : b.k ≠ 1) : headEq (ren ρ a) (ren ρ b) = headEq a b := by
 obtain ⟨k, n, s, ts⟩ := a
 obtain ⟨k', n', s', ts'⟩ := b
 simp only [Tm.k] at ha hb
 rw [ren_mk ρ ha, ren_mk ρ hb, Bool.eq_iff_iff, headEq_iff, headEq_iff]
 simp only [Tm.k, Tm.n, Tm.s, Tm.ts, List.length_map]
theorem Sim.wkEq (S : Sim ρ N σ τ) (hg : IsGood σ) (ho : AllS (OkV N) σ) {t : Tm} (ht : OkV N t) : AW.wk τ (ren ρ t) = ren ρ (AW.wk σ t) := by
 obtain ⟨rk, B, G⟩ := hg.rs
 obtain ⟨f, h⟩ := G.wk t
 exact (S.wk ho h ht).wk
theorem uni_sim (ρ : Int → Int) (N : Int) : ∀ g : Nat, (∀ (σ τ : Sub) (a b : Tm) (r : Bool) (σ' : Sub) (tr : List Int), IsGood σ → IsGood τ → AllS (OkV N) σ → OkV N a → OkV N b → Sim ρ N σ τ → uniF g σ a b = some (r, σ', tr) → ∃ τ', uniF g τ (ren ρ a) (ren ρ b) = some (r, τ', tr.map ρ) ∧ Sim ρ N σ' τ') ∧
 (∀ (xs ys : List Tm) (σ τ : Sub) (r : Bool) (σ' : Sub) (tr : List Int), IsGood σ → IsGood τ → AllS (OkV N) σ → (∀ x ∈ xs, OkV N x) → (∀ y ∈ ys, OkV N y) → Sim ρ N σ τ → unisF g σ xs ys = some (r, σ', tr) → ∃ τ', unisF g τ (xs.map (ren ρ)) (ys.map (ren ρ)) = some (r, τ', tr.map ρ) ∧ Sim ρ N σ' τ') := by
 intro g
 induction g with
 | zero =>
  refine ⟨fun σ τ a b r σ' tr _ _ _ _ _ _ h => (by simp only [uniF] at h; cases h), ?_⟩
  intro xs ys σ τ r σ' tr _ _ _ _ _ S h
  match xs, ys with
  | [], _ => simp only [unisF, Option.some.injEq, Prod.mk.injEq] at h; obtain ⟨rfl, rfl, rfl⟩ := h; exact ⟨τ, by simp only [List.map_nil, unisF], S⟩
  | x :: xs, [] => simp only [unisF, Option.some.injEq, Prod.mk.injEq] at h; obtain ⟨rfl, rfl, rfl⟩ := h; exact ⟨τ, by simp only [List.map_cons, List.map_nil, unisF], S⟩
  | x :: xs, y :: ys => simp only [unisF, uniF] at h; cases h
 | succ g ih =>
  have one : ∀ (σ τ : Sub) (a b : Tm) (r : Bool) (σ' : Sub) (tr : List Int), IsGood σ → IsGood τ → AllS (OkV N) σ → OkV N a → OkV N b → Sim ρ N σ τ → uniF (g + 1) σ a b = some (r, σ', tr) → ∃ τ', uniF (g + 1) τ (ren ρ a) (ren ρ b) = some (r, τ', tr.map ρ) ∧ Sim ρ N σ' τ' := by
   intro σ τ a b r σ' tr hg hg' ho ha hb S h
   obtain ⟨rk, B, G⟩ := hg.rs
   obtain ⟨fa, wa⟩ := G.wk a
   obtain ⟨fb, wb⟩ := G.wk b
   have oa := wa.all (p := OkV N) ho ha
   have ob := wb.all (p := OkV N) ho hb
   have ea := S.wkEq hg ho ha
   have eb := S.wkEq hg ho hb
   have h := uniF_cases h
   generalize AW.wk σ a = a1 at *
   generalize AW.wk σ b = b1 at *
   rw [uniF, ea, eb, ren_k, ren_k]
   have rng : ∀ {t : Tm}, OkV N t → t.k = 1 → 0 ≤ t.n ∧ t.n < N := fun ht hk => ht.2.2 _ (by rw [Tm.vl_k1 hk]; simp)
   have nn : ∀ {t : Tm}, t.k = 1 → (ren ρ t).n = ρ t.n := fun hk => by rw [ren_var ρ hk]; rfl
   rcases h with ⟨h1, h2, h3, rfl, rfl, rfl⟩ | ⟨h1, h2, h3⟩ | ⟨h1, h2, h3⟩ | ⟨h1, h2, h3, h4⟩ | ⟨h1, h2, h3, rfl, rfl, rfl⟩
   · exact ⟨τ, by rw [if_pos ⟨h1, h2, by rw [nn h1, nn h2, h3]⟩]; rfl, S⟩
   · have ra := rng oa h1
     obtain ⟨τ', e, S'⟩ := S.bnd hg hg' ho ra.1 ra.2 ob h3
     refine ⟨τ', ?_, S'⟩
     rw [if_neg, if_pos h1, nn h1, e]
     rintro ⟨_, h5, h6⟩
     have rb := rng ob h5
     rw [nn h1, nn h5] at h6
     exact h2 ⟨h5, S.inj _ _ ra.1 ra.2 rb.1 rb.2 h6⟩
   · have rb := rng ob h2
     obtain ⟨τ', e, S'⟩ := S.bnd hg hg' ho rb.1 rb.2 oa h3
     refine ⟨τ', ?_, S'⟩
     rw [if_neg (fun h => h1 h.1), if_neg h1, if_pos h2, nn h2, e]
   · obtain ⟨τ', e, S'⟩ := ih.2 a1.ts b1.ts σ τ r σ' tr hg hg' ho (okV_kids N a1 h1 oa) (okV_kids N b1 h2 ob) S h4
     refine ⟨τ', ?_, S'⟩
     rw [if_neg (fun h => h1 h.1), if_neg h1, if_neg h2, if_pos (by rw [headEq_ren h1 h2]; exact h3), ren_ne ρ h1, ren_ne ρ h2]
     exact e
   · refine ⟨τ, ?_, S⟩
     rw [if_neg (fun h => h1 h.1), if_neg h1, if_neg h2, if_neg (by rw [headEq_ren h1 h2, h3]; simp)]
     rfl
  refine ⟨one, ?_⟩
  intro xs
  induction xs with
  | nil =>
   intro ys σ τ r σ' tr _ _ _ _ _ S h
   simp only [unisF, Option.some.injEq, Prod.mk.injEq] at h; obtain ⟨rfl, rfl, rfl⟩ := h; exact ⟨τ, by simp only [List.map_nil, unisF], S⟩
  | cons x xs ihx =>
   intro ys σ τ r σ' tr hg hg' ho hx hy S h
   cases ys with
   | nil => simp only [unisF, Option.some.injEq, Prod.mk.injEq] at h; obtain ⟨rfl, rfl, rfl⟩ := h; exact ⟨τ, by simp only [List.map_cons, List.map_nil, unisF], S⟩
   | cons y ys =>
    rw [unisF] at h
    simp only [List.map_cons]
    rw [unisF]
    cases hu : uniF (g + 1) σ x y with
    | none => rw [hu] at h; cases h
    | some p =>
     obtain ⟨r1, σ1, tr1⟩ := p
     rw [hu] at h
     obtain ⟨τ1, e1, S1⟩ := one σ τ x y r1 σ1 tr1 hg hg' ho (hx x (by simp)) (hy y (by simp)) S hu
     rw [e1]
     cases r1 with
     | false =>
      simp only [Option.some.injEq, Prod.mk.injEq] at h ⊢
      obtain ⟨rfl, rfl, rfl⟩ := h
      exact ⟨τ1, ⟨rfl, rfl, rfl⟩, S1⟩
     | true =>
      simp only at h ⊢
      cases hu2 : unisF (g + 1) σ1 xs ys with
      | none => rw [hu2] at h; cases h
      | some p2 =>
       obtain ⟨r2, σ2, tr2⟩ := p2
       rw [hu2] at h
       simp only [Option.some.injEq, Prod.mk.injEq] at h
       obtain ⟨rfl, rfl, rfl⟩ := h
       have U1 := uniF_uni hg hu
       have U1' := uniF_uni hg' e1
       have ho1 := (uni_all (okV_kids N) (g + 1)).1 σ x y true σ1 tr1 hg hu ho (hx x (by simp)) (hy y (by simp))
       obtain ⟨τ2, e2, S2⟩ := ihx ys σ1 τ1 r2 σ2 tr2 U1.good U1'.good ho1 (fun z hz => hx z (by simp [hz])) (fun z hz => hy z (by simp [hz])) S1 hu2
       rw [e2]
       exact ⟨τ2, by simp only [List.map_append], S2⟩
theorem Sim.uniG (S : Sim ρ N σ τ) (hg : IsGood σ) (hg' : IsGood τ) (ho : AllS (OkV N) σ) {a b : Tm} (ha : OkV N a) (hb : OkV N b) {r : Bool} {σ' : Sub} {tr : List Int} {g : Nat} (h : uniF g σ a b = some (r, σ', tr)) :
 ∃ τ', AW.uniG τ (ren ρ a) (ren ρ b) = (r, τ', tr.map ρ) ∧ Sim ρ N σ' τ' ∧ IsGood τ' := by
 obtain ⟨τ', e, S'⟩ := (uni_sim ρ N g).1 σ τ a b r σ' tr hg hg' ho ha hb S h
 exact ⟨τ', uniG_eq e, S', (uniF_uni hg' e).good⟩
end
end Go.AW
