import Derived.Test.YtaifeijnedoboaaCbFino
import Derived.Test.YtaifeijnedoboaaCbFinp
import Derived.Test.YtaifeijnedoboaaCbFini
import Derived.Test.YtaifeijnedoboaaCbFinn
import Derived.Test.YtaifeijnedoboaaCbFink
import Derived.Test.YtaifeijnedoboaaCbFinm
import Derived.Test.YtaifeijnedoboaaCbFinf
import Derived.ProofKit
import Derived.Test.YtaifeijnedoboaaCbFinh

namespace Go.AW
open Go.Proofs.Try
set_option linter.unusedSimpArgs false
set_option maxRecDepth 100000
abbrev tf_D3_30 := And.intro tI_2 (And.intro zI_2 (And.intro underlying2 (And.intro tI_3 (And.intro zI_3 (And.intro underlying3 (And.intro tI_4 (And.intro zI_4 (And.intro underlying4 (And.intro tI_5 (And.intro zI_5 (And.intro underlying5 (And.intro tI_6 (And.intro zI_6 (And.intro underlying6 (And.intro tI_9 (And.intro zI_9 (And.intro underlying9 (And.intro tI_12 (And.intro zI_12 (And.intro underlying12 (And.intro tI_14 (And.intro zI_14 (And.intro fI_14_0 (And.intro fI_14_1 (And.intro bI_14 (And.intro tI_15 (And.intro zI_15 (And.intro tI_23 (And.intro zI_23 (And.intro eI_23 (And.intro eB_23 (And.intro eZ_23 (And.intro underlying23 (And.intro tI_25 (And.intro zI_25 (And.intro fI_25_0 (And.intro fI_25_1 (And.intro fI_25_2 (And.intro fI_25_3 (And.intro bI_25 (And.intro tI_27 (And.intro zI_27 (And.intro eI_27 (And.intro eB_27 (And.intro eZ_27 underlying27)))))))))))))))))))))))))))))))))))))))))))))
theorem c_l1CopyA (k n : Int) (s : ByteArray) (ts : List Tm) (st : zy7) (hsm : (Tm.mk k n s ts).small = true) : zq7 prog 30 [(Tm.mk k n s ts).av] st (fun r st' => ∃ b, r = .agg [.int .i64 k, .int .i64 n, .str s, accV 4 b (ts.map Tm.av)] ∧ st' = accS st b (ts.map Tm.av) ∧ (ts.map Tm.av ≠ [] → st b = none)) := by
  obtain ⟨hlen, hsms⟩ := Tm.small_mk hsm
  have IH := fun (x : Tm) (hx : x ∈ ts) st => c_l1Copy x st (hsms x hx)
  refine zq7.dropS ?_
  simp only [Tm.av_mk]
  refine zw6 [] func30 ntmps30 rfl rfl (by kernel_rfl) (by decide +kernel) (by show 1 ≤ _; decide +kernel) ?_
  simp only [fitsL, AV.fits, and_true, List.length_map]
  intro ⟨_, _, _, hl, _⟩
  simp -implicitDefEqProofs only [evE, ↓evZ2, ↓evZ3, ↓Int.cast_ofNat_Int, implies_true, zy2, aFn, List.contains, List.elem, zq3, zy1, zq2, sub, zx3, zw2, zw3, zy3, gd, zq1, zw0, zq0, zx0, zx2, zx1, zy0, zw1, List.range', ↓reduceIte, reduceCtorEq, Nat.reduceEqDiff, Nat.reduceAdd, Nat.reduceLeDiff, Nat.reduceMul, Nat.reduceLT, Nat.reduceBEq, Int.reduceEq, tf_D3_30]
  intro b2 hb2 c hc
  have hne : c ≠ b2 := by rintro rfl; rw [zy7.upd_same] at hc; cases hc
  have hn2 : st c = none := by rw [zy7.upd_ne st _ hne] at hc; exact hc
  simp -implicitDefEqProofs only [zy7.upd_upd, zy4, evE, ↓evZ2, ↓evZ3, ↓Int.cast_ofNat_Int, implies_true, zy2, aFn, List.contains, List.elem, zq3, zy1, zq2, sub, zx3, zw2, zw3, zy3, gd, zq1, zw0, zq0, zx0, zx2, zx1, zy0, zw1, List.range', ↓reduceIte, reduceCtorEq, Nat.reduceEqDiff, Nat.reduceAdd, Nat.reduceLeDiff, Nat.reduceMul, Nat.reduceLT, Nat.reduceBEq, Int.reduceEq, tf_D3_30]
  refine zy5 (σ := Nat) [] [1, 2, 3] ts (fun i b => (((ts.take i).map (fun y => y)).map Tm.av ≠ [] → (zy7.upd (st.upd b2 (.cells [AV.int .i64 0, AV.int .i64 0, AV.str ⟨#[]⟩, AV.fslice []])) c (.cells ([AV.int .i64 k, AV.int .i64 n, AV.str s] ++ [accV 4 b (((ts.take i).map (fun y => y)).map Tm.av)]))) b = none)) (fun i b => [(4, .int .i64 i)]) (fun i b => kidS (st.upd b2 (.cells [AV.int .i64 0, AV.int .i64 0, AV.str ⟨#[]⟩, AV.fslice []])) c b [AV.int .i64 k, AV.int .i64 n, AV.str s] (((ts.take i).map (fun y => y)).map Tm.av)) (by decide +kernel)
    ⟨0, fun h => absurd rfl h, zx7.mk (by simp -implicitDefEqProofs only [List.length_map, evE, ↓evZ2, ↓evZ3, ↓Int.cast_ofNat_Int, implies_true, zy2, aFn, List.contains, List.elem, zq3, zy1, zq2, sub, zx3, zw2, zw3, zy3, gd, zq1, zw0, zq0, zx0, zx2, zx1, zy0, zw1, List.range', ↓reduceIte, reduceCtorEq, Nat.reduceEqDiff, Nat.reduceAdd, Nat.reduceLeDiff, Nat.reduceMul, Nat.reduceLT, Nat.reduceBEq, Int.reduceEq, tf_D3_30])⟩ (fun i x b hx hlt hlt' hdr hinv => ?_) (fun b hge hinv => ?_)
  case refine_1 =>
    have hw := wrap64 (n := (i : Int) + 1) (by omega) (by omega)
    have hlen' : (((ts.take i).map (fun y => y)).map Tm.av).length = i := by simp only [List.length_map, List.length_take]; omega
    have htk : (ts.take (i + 1)).map (fun y => y) = (ts.take i).map (fun y => y) ++ [(fun y => y) x] := by rw [List.take_add_one, hx]; simp
    have hbo := kidS_c hinv
    simp -implicitDefEqProofs only [List.length_map, hlt', Nat.zero_add, evE, ↓evZ2, ↓evZ3, ↓Int.cast_ofNat_Int, implies_true, zy2, aFn, List.contains, List.elem, zq3, zy1, zq2, sub, zx3, zw2, zw3, zy3, gd, zq1, zw0, zq0, zx0, zx2, zx1, zy0, zw1, List.range', ↓reduceIte, reduceCtorEq, Nat.reduceEqDiff, Nat.reduceAdd, Nat.reduceLeDiff, Nat.reduceMul, Nat.reduceLT, Nat.reduceBEq, Int.reduceEq, tf_D3_30]
    refine zx5 [(0, 1), (2, 1), (4, 1), (1, 2), (3, 2), (5, 1), (6, 2), (7, 2), (8, 1), (9, 0), (10, 1), (11, 0)] [0, 2, 4, 1, 3, 5, 6, 7, 8, 10] mixed (by decide +kernel) (by decide +kernel) (by decide +kernel) ?_
    simp -implicitDefEqProofs only [ev_at (av := Tm.av) eI_23 hx (Tm.av_width x), Tm.av_agg, Tm.av_width, hbo, accV_agg, accV_width, Nat.zero_add, evE, ↓evZ2, ↓evZ3, ↓Int.cast_ofNat_Int, implies_true, zy2, aFn, List.contains, List.elem, zq3, zy1, zq2, sub, zx3, zw2, zw3, zy3, gd, zq1, zw0, zq0, zx0, zx2, zx1, zy0, zw1, List.range', ↓reduceIte, reduceCtorEq, Nat.reduceEqDiff, Nat.reduceAdd, Nat.reduceLeDiff, Nat.reduceMul, Nat.reduceLT, Nat.reduceBEq, Int.reduceEq, tf_D3_30]
    refine zw4 (IH x (List.mem_of_getElem? hx) _) ?_
    simp -implicitDefEqProofs only [Tm.av_agg, Tm.av_width, Tm.av_junk, hbo, accV_agg, accV_width, Nat.zero_add, evE, ↓evZ2, ↓evZ3, ↓Int.cast_ofNat_Int, implies_true, zy2, aFn, List.contains, List.elem, zq3, zy1, zq2, sub, zx3, zw2, zw3, zy3, gd, zq1, zw0, zq0, zx0, zx2, zx1, zy0, zw1, List.range', ↓reduceIte, reduceCtorEq, Nat.reduceEqDiff, Nat.reduceAdd, Nat.reduceLeDiff, Nat.reduceMul, Nat.reduceLT, Nat.reduceBEq, Int.reduceEq, tf_D3_30]
    refine acc_append eI_23 eB_23 eZ_23 rfl rfl (by intro e he; simp only [List.mem_cons, List.not_mem_nil, or_false] at he; subst he; exact ⟨Tm.av_width _, Tm.av_store _⟩) (tm_widths _) hinv (by simp only [hlen', List.length_cons, List.length_nil]; omega) (by simp only [hlen', List.length_cons, List.length_nil]; omega) (fun b' hb' => ?_)
    rw [show (((ts.take i).map (fun y => y)).map Tm.av) ++ [((fun y => y) x).av] = ((ts.take (i + 1)).map (fun y => y)).map Tm.av by rw [htk]; simp] at hb' ⊢
    obtain ⟨g1, g2, g3⟩ := kidS_set hb'
    simp only [List.cons_append, List.nil_append] at g1 g3
    simp -implicitDefEqProofs only [g3, accV_cells, accV_store, zy4, Nat.le_refl, g1, hw, evE, ↓evZ2, ↓evZ3, ↓Int.cast_ofNat_Int, implies_true, zy2, aFn, List.contains, List.elem, zq3, zy1, zq2, sub, zx3, zw2, zw3, zy3, gd, zq1, zw0, zq0, zx0, zx2, zx1, zy0, zw1, List.range', ↓reduceIte, reduceCtorEq, Nat.reduceEqDiff, Nat.reduceAdd, Nat.reduceLeDiff, Nat.reduceMul, Nat.reduceLT, Nat.reduceBEq, Int.reduceEq, tf_D3_30]
    exact ⟨b', g2, zx7.mk (by simp -implicitDefEqProofs only [evE, ↓evZ2, ↓evZ3, ↓Int.cast_ofNat_Int, implies_true, zy2, aFn, List.contains, List.elem, zq3, zy1, zq2, sub, zx3, zw2, zw3, zy3, gd, zq1, zw0, zq0, zx0, zx2, zx1, zy0, zw1, List.range', ↓reduceIte, reduceCtorEq, Nat.reduceEqDiff, Nat.reduceAdd, Nat.reduceLeDiff, Nat.reduceMul, Nat.reduceLT, Nat.reduceBEq, Int.reduceEq, tf_D3_30])⟩
  have hbo := kidS_c hinv
  rw [List.take_length] at hinv hbo ⊢
  simp -implicitDefEqProofs only [List.length_map, hge, evE, ↓evZ2, ↓evZ3, ↓Int.cast_ofNat_Int, implies_true, zy2, aFn, List.contains, List.elem, zq3, zy1, zq2, sub, zx3, zw2, zw3, zy3, gd, zq1, zw0, zq0, zx0, zx2, zx1, zy0, zw1, List.range', ↓reduceIte, reduceCtorEq, Nat.reduceEqDiff, Nat.reduceAdd, Nat.reduceLeDiff, Nat.reduceMul, Nat.reduceLT, Nat.reduceBEq, Int.reduceEq, tf_D3_30]
  simp -implicitDefEqProofs only [hbo, evE, ↓evZ2, ↓evZ3, ↓Int.cast_ofNat_Int, implies_true, zy2, aFn, List.contains, List.elem, zq3, zy1, zq2, sub, zx3, zw2, zw3, zy3, gd, zq1, zw0, zq0, zx0, zx2, zx1, zy0, zw1, List.range', ↓reduceIte, reduceCtorEq, Nat.reduceEqDiff, Nat.reduceAdd, Nat.reduceLeDiff, Nat.reduceMul, Nat.reduceLT, Nat.reduceBEq, Int.reduceEq, tf_D3_30]
  have hb2c : b2 ≠ c := Ne.symm hne
  have hS : (st.upd b2 (.cells [AV.int .i64 0, AV.int .i64 0, AV.str ⟨#[]⟩, AV.fslice []])) b2 ≠ none := by rw [zy7.upd_same]; simp
  have h1 := kidS_ne hinv hS hb2c
  rw [zy7.upd_same] at h1
  simp -implicitDefEqProofs only [h1, accV_store, accV_cells, zy4, Nat.le_refl, evE, ↓evZ2, ↓evZ3, ↓Int.cast_ofNat_Int, implies_true, zy2, aFn, List.contains, List.elem, zq3, zy1, zq2, sub, zx3, zw2, zw3, zy3, gd, zq1, zw0, zq0, zx0, zx2, zx1, zy0, zw1, List.range', ↓reduceIte, reduceCtorEq, Nat.reduceEqDiff, Nat.reduceAdd, Nat.reduceLeDiff, Nat.reduceMul, Nat.reduceLT, Nat.reduceBEq, Int.reduceEq, tf_D3_30]
  obtain ⟨h2, h3⟩ := kidS_upd (o := .cells [AV.int .i64 k, AV.int .i64 n, AV.str s, accV 4 b ((ts.map fun y => y).map Tm.av)]) hinv hS hb2c
  simp only [List.cons_append, List.nil_append] at h2 h3
  rw [h2]
  have D : ∀ o o' o'', Drops (((st.upd b2 o).upd c o').upd b2 o'') st := fun o o' o'' => (((Drops.refl _).upd hb2).upd hn2).upd hb2
  simp only [List.map_id'] at h3 ⊢
  exact ⟨_, drops_acc2 (D _ _ _), b, rfl, rfl, fun h => (D _ _ _ b).1 (h3 h)⟩
abbrev tf_D3_10 := And.intro tI_2 (And.intro zI_2 (And.intro underlying2 (And.intro tI_3 (And.intro zI_3 (And.intro underlying3 (And.intro tI_4 (And.intro zI_4 (And.intro underlying4 (And.intro tI_5 (And.intro zI_5 (And.intro underlying5 (And.intro tI_6 (And.intro zI_6 (And.intro underlying6 (And.intro tI_7 (And.intro zI_7 (And.intro fI_7_0 (And.intro fI_7_1 (And.intro fI_7_2 (And.intro fI_7_3 (And.intro bI_7 (And.intro tI_8 (And.intro zI_8 (And.intro fI_8_0 (And.intro fI_8_1 (And.intro fI_8_2 (And.intro fI_8_3 (And.intro bI_8 (And.intro tI_9 (And.intro zI_9 (And.intro underlying9 (And.intro tI_10 (And.intro zI_10 (And.intro underlying10 (And.intro tI_11 (And.intro zI_11 (And.intro underlying11 (And.intro tI_12 (And.intro zI_12 (And.intro underlying12 (And.intro tI_13 (And.intro zI_13 (And.intro fI_13_0 (And.intro fI_13_1 (And.intro bI_13 (And.intro tI_14 (And.intro zI_14 (And.intro fI_14_0 (And.intro fI_14_1 (And.intro bI_14 (And.intro tI_15 (And.intro zI_15 (And.intro tI_16 (And.intro zI_16 (And.intro tI_17 (And.intro zI_17 (And.intro tI_19 (And.intro zI_19 (And.intro fI_19_0 (And.intro bI_19 (And.intro tI_21 (And.intro zI_21 (And.intro underlying21 (And.intro tI_23 (And.intro zI_23 (And.intro eI_23 (And.intro eB_23 (And.intro eZ_23 (And.intro underlying23 (And.intro tI_25 (And.intro zI_25 (And.intro fI_25_0 (And.intro fI_25_1 (And.intro fI_25_2 (And.intro fI_25_3 (And.intro bI_25 (And.intro tI_27 (And.intro zI_27 (And.intro eI_27 (And.intro eB_27 (And.intro eZ_27 (And.intro underlying27 (And.intro tI_34 (And.intro zI_34 (And.intro tI_39 (And.intro zI_39 (And.intro tI_48 (And.intro zI_48 (And.intro fI_48_0 (And.intro fI_48_1 (And.intro bI_48 (And.intro tI_49 (And.intro zI_49 (And.intro fI_49_0 (And.intro fI_49_1 (And.intro bI_49 (And.intro tI_61 (And.intro zI_61 (And.intro eI_61 (And.intro eB_61 (And.intro eZ_61 (And.intro underlying61 (And.intro tI_63 (And.intro zI_63 (And.intro eI_63 (And.intro eB_63 (And.intro eZ_63 (And.intro underlying63 (And.intro tI_97 (And.intro zI_97 (And.intro underlying97 (And.intro tI_103 (And.intro zI_103 (And.intro fI_103_0 (And.intro fI_103_1 (And.intro fI_103_2 (And.intro fI_103_3 (And.intro bI_103 (And.intro tI_108 (And.intro zI_108 (And.intro underlying108 (And.intro tI_110 (And.intro zI_110 (And.intro underlying110 (And.intro tI_115 (And.intro zI_115 (And.intro fI_115_0 (And.intro fI_115_1 (And.intro fI_115_2 (And.intro fI_115_3 (And.intro fI_115_4 (And.intro fI_115_5 (And.intro fI_115_6 (And.intro fI_115_7 (And.intro fI_115_8 (And.intro fI_115_9 (And.intro fI_115_10 (And.intro bI_115 (And.intro tI_116 (And.intro zI_116 (And.intro fI_116_0 (And.intro fI_116_1 (And.intro fI_116_2 (And.intro fI_116_3 (And.intro fI_116_4 (And.intro fI_116_5 (And.intro fI_116_6 (And.intro fI_116_7 (And.intro fI_116_8 (And.intro fI_116_9 (And.intro fI_116_10 bI_116)))))))))))))))))))))))))))))))))))))))))))))))))))))))))))))))))))))))))))))))))))))))))))))))))))))))))))))))))))))))))))))))))))))))))))))))))))))))
theorem c_l1Mutate (bs : List Bt) (c p : Nat) (t : Tm) (hsm : t.small = true) (st : zy7) (hp : p + 10 ≤ 1099511627776) (hR : RdAt st c bs p) :
    zq7 prog 10 [.ptr c 0, t.av] st (Dr bs c p 10 st (fun r => ∃ t : Tm, r = t.av)) := by
  obtain ⟨k, n, s, ts⟩ := t
  refine zq7.dropS (zq7.fin ?_)
  refine zw6 [1000000, 5] func10 ntmps10 rfl rfl (by kernel_rfl) (by decide +kernel) (by show 2 ≤ _; decide +kernel) ?_
  intro _
  simp -implicitDefEqProofs only [zy4, evE, ↓evZ2, ↓evZ3, ↓Int.cast_ofNat_Int, implies_true, zy2, aFn, List.contains, List.elem, zq3, zy1, zq2, sub, zx3, zw2, zw3, zy3, gd, zq1, zw0, zq0, zx0, zx2, zx1, zy0, zw1, List.range', ↓reduceIte, reduceCtorEq, Nat.reduceEqDiff, Nat.reduceAdd, Nat.reduceLeDiff, Nat.reduceMul, Nat.reduceLT, Nat.reduceBEq, Int.reduceEq, tf_D3_10]
  intro b4 h4
  have h4c := hR.ne h4
  have hR' := fun o => hR.upd (o := o) h4c
  refine (c_l1CopyA k n s ts _ hsm).mono ?_
  rintro _ _ ⟨b, rfl, rfl, hb⟩
  simp -implicitDefEqProofs only [accV_agg, accV_width, accV_store, accV_cells, zy4, evE, ↓evZ2, ↓evZ3, ↓Int.cast_ofNat_Int, implies_true, zy2, aFn, List.contains, List.elem, zq3, zy1, zq2, sub, zx3, zw2, zw3, zy3, gd, zq1, zw0, zq0, zx0, zx2, zx1, zy0, zw1, List.range', ↓reduceIte, reduceCtorEq, Nat.reduceEqDiff, Nat.reduceAdd, Nat.reduceLeDiff, Nat.reduceMul, Nat.reduceLT, Nat.reduceBEq, Int.reduceEq, tf_D3_10]
  intro b5 h5
  obtain ⟨hn5, hb5⟩ := accS_none h5
  have h54 : b5 ≠ b4 := by rintro rfl; rw [zy7.upd_same] at hn5; cases hn5
  have hn5' : st b5 = none := by rw [zy7.upd_ne _ _ h54] at hn5; exact hn5
  have h5c : b5 ≠ c := hR.ne hn5'
  have hW4 : ∀ q, ((st.upd b4 (.cells [.int .i64 0, .int .i64 0, .str ⟨#[]⟩, .fslice []])).upd c (rdC bs q)) b4 = some (.cells [.int .i64 0, .int .i64 0, .str ⟨#[]⟩, .fslice []]) := fun q => by rw [zy7.upd_ne _ _ h4c, zy7.upd_same]
  have hdr : ∀ q Z Y, Drops ((((st.upd b4 (.cells [.int .i64 0, .int .i64 0, .str ⟨#[]⟩, .fslice []])).upd c (rdC bs q)).upd b5 Z).upd b4 Y) (st.upd c (rdC bs q)) := fun q Z Y x => by
    by_cases e4 : x = b4 <;> by_cases ec : x = c <;> by_cases e5 : x = b5 <;> simp_all [zy7.upd]
  have e0 : (accS (st.upd b4 (.cells [.int .i64 0, .int .i64 0, .str ⟨#[]⟩, .fslice []])) b (ts.map Tm.av)).upd b5 (.cells [.int .i64 k, .int .i64 n, .str s, accV 4 b (ts.map Tm.av)]) = kidS (st.upd b4 (.cells [.int .i64 0, .int .i64 0, .str ⟨#[]⟩, .fslice []])) b5 b [.int .i64 k, .int .i64 n, .str s] (ts.map Tm.av) := by
    rw [accS_upd hb5]; rfl
  have i0 : ts.map Tm.av ≠ [] → ((st.upd b4 (.cells [.int .i64 0, .int .i64 0, .str ⟨#[]⟩, .fslice []])).upd b5 (.cells ([.int .i64 k, .int .i64 n, .str s] ++ [accV 4 b (ts.map Tm.av)]))) b = none := fun h => by
    rw [zy7.upd_ne _ _ (Ne.symm (hb5 h))]; exact hb h
  have hUc : (st.upd b4 (.cells [.int .i64 0, .int .i64 0, .str ⟨#[]⟩, .fslice []])) c ≠ none := by rw [hR' _]; simp
  rw [e0]
  have hRk : RdAt (kidS (st.upd b4 (.cells [.int .i64 0, .int .i64 0, .str ⟨#[]⟩, .fslice []])) b5 b [.int .i64 k, .int .i64 n, .str s] (ts.map Tm.av)) c bs p := by
    unfold RdAt
    rw [kidS_ne i0 hUc h5c.symm]
    exact hR' _
  refine (c_pick bs c p (by omega) 50 (by omega) (by omega) _ hRk).mono ?_
  rintro _ _ ⟨j, hj, rfl, rfl⟩
  obtain ⟨e1, i1⟩ := kidS_beside (o := rdC bs (p + 1)) i0 hUc h5c.symm
  rw [e1]
  have hWc : ∀ q, ((st.upd b4 (.cells [.int .i64 0, .int .i64 0, .str ⟨#[]⟩, .fslice []])).upd c (rdC bs q)) c ≠ none := fun q => by rw [zy7.upd_same]; simp
  have hRq : ∀ q (hd l : List AV), (l ≠ [] → (((st.upd b4 (.cells [.int .i64 0, .int .i64 0, .str ⟨#[]⟩, .fslice []])).upd c (rdC bs q)).upd b5 (.cells (hd ++ [accV 4 b l]))) b = none) → RdAt (kidS ((st.upd b4 (.cells [.int .i64 0, .int .i64 0, .str ⟨#[]⟩, .fslice []])).upd c (rdC bs q)) b5 b hd l) c bs q := fun q hd l hi => by
    unfold RdAt
    rw [kidS_ne hi (hWc q) h5c.symm, zy7.upd_same]
    rfl
  clear e0 i0 hRk e1
  simp -implicitDefEqProofs only [zy4, evE, ↓evZ2, ↓evZ3, ↓Int.cast_ofNat_Int, implies_true, zy2, aFn, List.contains, List.elem, zq3, zy1, zq2, sub, zx3, zw2, zw3, zy3, gd, zq1, zw0, zq0, zx0, zx2, zx1, zy0, zw1, List.range', ↓reduceIte, reduceCtorEq, Nat.reduceEqDiff, Nat.reduceAdd, Nat.reduceLeDiff, Nat.reduceMul, Nat.reduceLT, Nat.reduceBEq, Int.reduceEq, tf_D3_10]
  refine zq4 (fun h0 => ?_) (fun h0 => ?_)
  · simp -implicitDefEqProofs only [zy4, evE, ↓evZ2, ↓evZ3, ↓Int.cast_ofNat_Int, implies_true, zy2, aFn, List.contains, List.elem, zq3, zy1, zq2, sub, zx3, zw2, zw3, zy3, gd, zq1, zw0, zq0, zx0, zx2, zx1, zy0, zw1, List.range', ↓reduceIte, reduceCtorEq, Nat.reduceEqDiff, Nat.reduceAdd, Nat.reduceLeDiff, Nat.reduceMul, Nat.reduceLT, Nat.reduceBEq, Int.reduceEq, tf_D3_10]
    refine (c_numF [0, 4, 1, 2, 3] (by simp) (by simp) bs c (p + 1) (by omega) _ (hRq _ _ _ i1)).mono ?_
    rintro _ _ ⟨y, _, rfl, rfl⟩
    obtain ⟨e1, i1⟩ := kidS_beside (o := rdC bs (p + 1 + 1)) i1 (hWc _) h5c.symm
    rw [zy7.upd_upd] at e1 i1
    rw [e1]
    have hbo := kidS_c i1
    obtain ⟨e2, i1⟩ := kidS_hd (hd' := [.int .i64 y, .int .i64 n, .str s]) i1
    simp only [List.cons_append, List.nil_append] at e2
    simp -implicitDefEqProofs only [zy4, hbo, evE, ↓evZ2, ↓evZ3, ↓Int.cast_ofNat_Int, implies_true, zy2, aFn, List.contains, List.elem, zq3, zy1, zq2, sub, zx3, zw2, zw3, zy3, gd, zq1, zw0, zq0, zx0, zx2, zx1, zy0, zw1, List.range', ↓reduceIte, reduceCtorEq, Nat.reduceEqDiff, Nat.reduceAdd, Nat.reduceLeDiff, Nat.reduceMul, Nat.reduceLT, Nat.reduceBEq, Int.reduceEq, tf_D3_10]
    rw [e2]
    have hbo := kidS_c i1
    have h4o := kidS_ne i1 (x := b4) (by rw [hW4]; simp) h54.symm
    rw [hW4] at h4o
    simp -implicitDefEqProofs only [zy4, hbo, h4o, accV_store, evE, ↓evZ2, ↓evZ3, ↓Int.cast_ofNat_Int, implies_true, zy2, aFn, List.contains, List.elem, zq3, zy1, zq2, sub, zx3, zw2, zw3, zy3, gd, zq1, zw0, zq0, zx0, zx2, zx1, zy0, zw1, List.range', ↓reduceIte, reduceCtorEq, Nat.reduceEqDiff, Nat.reduceAdd, Nat.reduceLeDiff, Nat.reduceMul, Nat.reduceLT, Nat.reduceBEq, Int.reduceEq, tf_D3_10]
    obtain ⟨g5, g6⟩ := kidS_upd (o := .cells [.int .i64 (y), .int .i64 (n), .str (s), accV 4 b ((ts).map Tm.av)]) i1 (show ((st.upd b4 (.cells [.int .i64 0, .int .i64 0, .str ⟨#[]⟩, .fslice []])).upd c (rdC bs (p + 1 + 1))) b4 ≠ none by rw [hW4]; simp) h54.symm
    refine ⟨b, _, _, g5, g6, tm_junk _, ⟨4, tm_widths _⟩, st.upd c (rdC bs (p + 1 + 1)), hdr _ _ _, p + 1 + 1, by omega, by omega, rfl, .mk (y) (n) (s) (ts), ?_⟩
    simp only [fin_agg, List.map_cons, List.map_nil, fin_int, fin_str, accV_fin, Tm.av_mk]
  simp -implicitDefEqProofs only [zy4, evE, ↓evZ2, ↓evZ3, ↓Int.cast_ofNat_Int, implies_true, zy2, aFn, List.contains, List.elem, zq3, zy1, zq2, sub, zx3, zw2, zw3, zy3, gd, zq1, zw0, zq0, zx0, zx2, zx1, zy0, zw1, List.range', ↓reduceIte, reduceCtorEq, Nat.reduceEqDiff, Nat.reduceAdd, Nat.reduceLeDiff, Nat.reduceMul, Nat.reduceLT, Nat.reduceBEq, Int.reduceEq, tf_D3_10]
  refine zq4 (fun h0 => ?_) (fun h0 => ?_)
  · simp -implicitDefEqProofs only [zy4, evE, ↓evZ2, ↓evZ3, ↓Int.cast_ofNat_Int, implies_true, zy2, aFn, List.contains, List.elem, zq3, zy1, zq2, sub, zx3, zw2, zw3, zy3, gd, zq1, zw0, zq0, zx0, zx2, zx1, zy0, zw1, List.range', ↓reduceIte, reduceCtorEq, Nat.reduceEqDiff, Nat.reduceAdd, Nat.reduceLeDiff, Nat.reduceMul, Nat.reduceLT, Nat.reduceBEq, Int.reduceEq, tf_D3_10]
    refine (c_numF [26, 1000, -1000, -1, 1] (by simp) (by simp) bs c (p + 1) (by omega) _ (hRq _ _ _ i1)).mono ?_
    rintro _ _ ⟨y, _, rfl, rfl⟩
    obtain ⟨e1, i1⟩ := kidS_beside (o := rdC bs (p + 1 + 1)) i1 (hWc _) h5c.symm
    rw [zy7.upd_upd] at e1 i1
    rw [e1]
    have hbo := kidS_c i1
    obtain ⟨e2, i1⟩ := kidS_hd (hd' := [.int .i64 k, .int .i64 y, .str s]) i1
    simp only [List.cons_append, List.nil_append] at e2
    simp -implicitDefEqProofs only [zy4, hbo, evE, ↓evZ2, ↓evZ3, ↓Int.cast_ofNat_Int, implies_true, zy2, aFn, List.contains, List.elem, zq3, zy1, zq2, sub, zx3, zw2, zw3, zy3, gd, zq1, zw0, zq0, zx0, zx2, zx1, zy0, zw1, List.range', ↓reduceIte, reduceCtorEq, Nat.reduceEqDiff, Nat.reduceAdd, Nat.reduceLeDiff, Nat.reduceMul, Nat.reduceLT, Nat.reduceBEq, Int.reduceEq, tf_D3_10]
    rw [e2]
    have hbo := kidS_c i1
    have h4o := kidS_ne i1 (x := b4) (by rw [hW4]; simp) h54.symm
    rw [hW4] at h4o
    simp -implicitDefEqProofs only [zy4, hbo, h4o, accV_store, evE, ↓evZ2, ↓evZ3, ↓Int.cast_ofNat_Int, implies_true, zy2, aFn, List.contains, List.elem, zq3, zy1, zq2, sub, zx3, zw2, zw3, zy3, gd, zq1, zw0, zq0, zx0, zx2, zx1, zy0, zw1, List.range', ↓reduceIte, reduceCtorEq, Nat.reduceEqDiff, Nat.reduceAdd, Nat.reduceLeDiff, Nat.reduceMul, Nat.reduceLT, Nat.reduceBEq, Int.reduceEq, tf_D3_10]
    obtain ⟨g5, g6⟩ := kidS_upd (o := .cells [.int .i64 (k), .int .i64 (y), .str (s), accV 4 b ((ts).map Tm.av)]) i1 (show ((st.upd b4 (.cells [.int .i64 0, .int .i64 0, .str ⟨#[]⟩, .fslice []])).upd c (rdC bs (p + 1 + 1))) b4 ≠ none by rw [hW4]; simp) h54.symm
    refine ⟨b, _, _, g5, g6, tm_junk _, ⟨4, tm_widths _⟩, st.upd c (rdC bs (p + 1 + 1)), hdr _ _ _, p + 1 + 1, by omega, by omega, rfl, .mk (k) (y) (s) (ts), ?_⟩
    simp only [fin_agg, List.map_cons, List.map_nil, fin_int, fin_str, accV_fin, Tm.av_mk]
  simp -implicitDefEqProofs only [zy4, evE, ↓evZ2, ↓evZ3, ↓Int.cast_ofNat_Int, implies_true, zy2, aFn, List.contains, List.elem, zq3, zy1, zq2, sub, zx3, zw2, zw3, zy3, gd, zq1, zw0, zq0, zx0, zx2, zx1, zy0, zw1, List.range', ↓reduceIte, reduceCtorEq, Nat.reduceEqDiff, Nat.reduceAdd, Nat.reduceLeDiff, Nat.reduceMul, Nat.reduceLT, Nat.reduceBEq, Int.reduceEq, tf_D3_10]
  refine zq4 (fun h0 => ?_) (fun h0 => ?_)
  · simp -implicitDefEqProofs only [zy4, evE, ↓evZ2, ↓evZ3, ↓Int.cast_ofNat_Int, implies_true, zy2, aFn, List.contains, List.elem, zq3, zy1, zq2, sub, zx3, zw2, zw3, zy3, gd, zq1, zw0, zq0, zx0, zx2, zx1, zy0, zw1, List.range', ↓reduceIte, reduceCtorEq, Nat.reduceEqDiff, Nat.reduceAdd, Nat.reduceLeDiff, Nat.reduceMul, Nat.reduceLT, Nat.reduceBEq, Int.reduceEq, tf_D3_10]
    refine (c_ofF [⟨#[]⟩, ⟨#[88]⟩, ⟨#[116, 111, 111, 108, 111, 110, 103]⟩, ⟨#[195, 169]⟩, ⟨#[97]⟩] (by simp) (by simp) bs c (p + 1) (by omega) _ (hRq _ _ _ i1)).mono ?_
    rintro _ _ ⟨y, _, rfl, rfl⟩
    obtain ⟨e1, i1⟩ := kidS_beside (o := rdC bs (p + 1 + 1)) i1 (hWc _) h5c.symm
    rw [zy7.upd_upd] at e1 i1
    rw [e1]
    have hbo := kidS_c i1
    obtain ⟨e2, i1⟩ := kidS_hd (hd' := [.int .i64 k, .int .i64 n, .str y]) i1
    simp only [List.cons_append, List.nil_append] at e2
    simp -implicitDefEqProofs only [zy4, hbo, evE, ↓evZ2, ↓evZ3, ↓Int.cast_ofNat_Int, implies_true, zy2, aFn, List.contains, List.elem, zq3, zy1, zq2, sub, zx3, zw2, zw3, zy3, gd, zq1, zw0, zq0, zx0, zx2, zx1, zy0, zw1, List.range', ↓reduceIte, reduceCtorEq, Nat.reduceEqDiff, Nat.reduceAdd, Nat.reduceLeDiff, Nat.reduceMul, Nat.reduceLT, Nat.reduceBEq, Int.reduceEq, tf_D3_10]
    rw [e2]
    have hbo := kidS_c i1
    have h4o := kidS_ne i1 (x := b4) (by rw [hW4]; simp) h54.symm
    rw [hW4] at h4o
    simp -implicitDefEqProofs only [zy4, hbo, h4o, accV_store, evE, ↓evZ2, ↓evZ3, ↓Int.cast_ofNat_Int, implies_true, zy2, aFn, List.contains, List.elem, zq3, zy1, zq2, sub, zx3, zw2, zw3, zy3, gd, zq1, zw0, zq0, zx0, zx2, zx1, zy0, zw1, List.range', ↓reduceIte, reduceCtorEq, Nat.reduceEqDiff, Nat.reduceAdd, Nat.reduceLeDiff, Nat.reduceMul, Nat.reduceLT, Nat.reduceBEq, Int.reduceEq, tf_D3_10]
    obtain ⟨g5, g6⟩ := kidS_upd (o := .cells [.int .i64 (k), .int .i64 (n), .str (y), accV 4 b ((ts).map Tm.av)]) i1 (show ((st.upd b4 (.cells [.int .i64 0, .int .i64 0, .str ⟨#[]⟩, .fslice []])).upd c (rdC bs (p + 1 + 1))) b4 ≠ none by rw [hW4]; simp) h54.symm
    refine ⟨b, _, _, g5, g6, tm_junk _, ⟨4, tm_widths _⟩, st.upd c (rdC bs (p + 1 + 1)), hdr _ _ _, p + 1 + 1, by omega, by omega, rfl, .mk (k) (n) (y) (ts), ?_⟩
    simp only [fin_agg, List.map_cons, List.map_nil, fin_int, fin_str, accV_fin, Tm.av_mk]
  simp -implicitDefEqProofs only [zy4, evE, ↓evZ2, ↓evZ3, ↓Int.cast_ofNat_Int, implies_true, zy2, aFn, List.contains, List.elem, zq3, zy1, zq2, sub, zx3, zw2, zw3, zy3, gd, zq1, zw0, zq0, zx0, zx2, zx1, zy0, zw1, List.range', ↓reduceIte, reduceCtorEq, Nat.reduceEqDiff, Nat.reduceAdd, Nat.reduceLeDiff, Nat.reduceMul, Nat.reduceLT, Nat.reduceBEq, Int.reduceEq, tf_D3_10]
  refine zq4 (fun h0 => ?_) (fun h0 => ?_)
  · simp -implicitDefEqProofs only [zy4, evE, ↓evZ2, ↓evZ3, ↓Int.cast_ofNat_Int, implies_true, zy2, aFn, List.contains, List.elem, zq3, zy1, zq2, sub, zx3, zw2, zw3, zy3, gd, zq1, zw0, zq0, zx0, zx2, zx1, zy0, zw1, List.range', ↓reduceIte, reduceCtorEq, Nat.reduceEqDiff, Nat.reduceAdd, Nat.reduceLeDiff, Nat.reduceMul, Nat.reduceLT, Nat.reduceBEq, Int.reduceEq, tf_D3_10]
    refine zw5 (σ := Nat × List Tm) [1000000, 5] [4, 5, 10] (fun x => (x.2.map Tm.av ≠ [] → (zy7.upd ((st.upd b4 (.cells [.int .i64 0, .int .i64 0, .str ⟨#[]⟩, .fslice []])).upd c (rdC bs (p + 1))) b5 (.cells ([.int .i64 k, .int .i64 n, .str s] ++ [accV 4 x.1 (x.2.map Tm.av)]))) x.1 = none)) (fun _ => []) (fun x => kidS ((st.upd b4 (.cells [.int .i64 0, .int .i64 0, .str ⟨#[]⟩, .fslice []])).upd c (rdC bs (p + 1))) b5 x.1 [.int .i64 k, .int .i64 n, .str s] (x.2.map Tm.av)) (fun x => 5 - x.2.length) (by decide +kernel) ⟨(b, ts), i1, zx7.mk (by simp -implicitDefEqProofs only [zy4, evE, ↓evZ2, ↓evZ3, ↓Int.cast_ofNat_Int, implies_true, zy2, aFn, List.contains, List.elem, zq3, zy1, zq2, sub, zx3, zw2, zw3, zy3, gd, zq1, zw0, zq0, zx0, zx2, zx1, zy0, zw1, List.range', ↓reduceIte, reduceCtorEq, Nat.reduceEqDiff, Nat.reduceAdd, Nat.reduceLeDiff, Nat.reduceMul, Nat.reduceLT, Nat.reduceBEq, Int.reduceEq, tf_D3_10])⟩ ?_
    rintro ⟨b, acc⟩ i1
    simp only at i1
    have hbo := kidS_c i1
    have haL := accV_len (w := 4) (b := b) (l := acc.map Tm.av) underlying23
    simp -implicitDefEqProofs only [zy4, hbo, accV_agg, accV_width, accV_junk, accV_store, accV_cells, haL, List.length_map, evE, ↓evZ2, ↓evZ3, ↓Int.cast_ofNat_Int, implies_true, zy2, aFn, List.contains, List.elem, zq3, zy1, zq2, sub, zx3, zw2, zw3, zy3, gd, zq1, zw0, zq0, zx0, zx2, zx1, zy0, zw1, List.range', ↓reduceIte, reduceCtorEq, Nat.reduceEqDiff, Nat.reduceAdd, Nat.reduceLeDiff, Nat.reduceMul, Nat.reduceLT, Nat.reduceBEq, Int.reduceEq, tf_D3_10]
    refine zq4 (fun h1 => ?_) (fun h1 => ?_)
    · simp only [decide_eq_true_eq] at h1
      have hlen' : (acc.map Tm.av).length ≤ 4 := by rw [List.length_map]; omega
      simp -implicitDefEqProofs only [zy4, hbo, accV_agg, accV_width, accV_junk, accV_store, accV_cells, haL, List.length_map, evE, ↓evZ2, ↓evZ3, ↓Int.cast_ofNat_Int, implies_true, zy2, aFn, List.contains, List.elem, zq3, zy1, zq2, sub, zx3, zw2, zw3, zy3, gd, zq1, zw0, zq0, zx0, zx2, zx1, zy0, zw1, List.range', ↓reduceIte, reduceCtorEq, Nat.reduceEqDiff, Nat.reduceAdd, Nat.reduceLeDiff, Nat.reduceMul, Nat.reduceLT, Nat.reduceBEq, Int.reduceEq, tf_D3_10]
      refine zq5 [(0, 1), (1, 1), (2, 0), (3, 1), (4, 0), (5, 1), (6, 2)] [0, 1, 3, 5] (none0'.upd b5 (.cells [.int .i64 k, .int .i64 n, .str s, accV 4 b (acc.map Tm.av)])) mixed (by decide +kernel) (by decide +kernel) (by decide +kernel) rfl (ext_one hbo) ?_
      simp -implicitDefEqProofs only [zy4, hbo, accV_agg, accV_width, accV_junk, accV_store, accV_cells, haL, List.length_map, evE, ↓evZ2, ↓evZ3, ↓Int.cast_ofNat_Int, implies_true, zy2, aFn, List.contains, List.elem, zq3, zy1, zq2, sub, zx3, zw2, zw3, zy3, gd, zq1, zw0, zq0, zx0, zx2, zx1, zy0, zw1, List.range', ↓reduceIte, reduceCtorEq, Nat.reduceEqDiff, Nat.reduceAdd, Nat.reduceLeDiff, Nat.reduceMul, Nat.reduceLT, Nat.reduceBEq, Int.reduceEq, tf_D3_10]
      refine (c_l1Int 1 _).to ?_
      simp -implicitDefEqProofs only [Tm.av_agg, Tm.av_width, Tm.av_store, Tm.av_junk, zy4, hbo, accV_agg, accV_width, accV_junk, accV_store, accV_cells, haL, List.length_map, evE, ↓evZ2, ↓evZ3, ↓Int.cast_ofNat_Int, implies_true, zy2, aFn, List.contains, List.elem, zq3, zy1, zq2, sub, zx3, zw2, zw3, zy3, gd, zq1, zw0, zq0, zx0, zx2, zx1, zy0, zw1, List.range', ↓reduceIte, reduceCtorEq, Nat.reduceEqDiff, Nat.reduceAdd, Nat.reduceLeDiff, Nat.reduceMul, Nat.reduceLT, Nat.reduceBEq, Int.reduceEq, tf_D3_10]
      refine ⟨ext_one hbo, ?_⟩
      refine acc_append eI_23 eB_23 eZ_23 rfl rfl (by intro e he; simp only [List.mem_cons, List.not_mem_nil, or_false] at he; subst he; exact ⟨Tm.av_width _, Tm.av_store _⟩) (tm_widths _) i1 (by simp only [List.length_cons, List.length_nil]; omega) (by simp only [List.length_cons, List.length_nil]; omega) (fun b' hb' => ?_)
      rw [show acc.map Tm.av ++ [(Tm.mk 2 1 ⟨#[]⟩ []).av] = (acc ++ [Tm.mk 2 1 ⟨#[]⟩ []]).map Tm.av by simp] at hb' ⊢
      obtain ⟨g1, g2, g3⟩ := kidS_set hb'
      simp only [List.cons_append, List.nil_append] at g1 g3
      simp -implicitDefEqProofs only [zy4, hbo, accV_agg, accV_width, accV_junk, accV_store, accV_cells, haL, List.length_map, evE, ↓evZ2, ↓evZ3, ↓Int.cast_ofNat_Int, implies_true, zy2, aFn, List.contains, List.elem, zq3, zy1, zq2, sub, zx3, zw2, zw3, zy3, gd, zq1, zw0, zq0, zx0, zx2, zx1, zy0, zw1, List.range', ↓reduceIte, reduceCtorEq, Nat.reduceEqDiff, Nat.reduceAdd, Nat.reduceLeDiff, Nat.reduceMul, Nat.reduceLT, Nat.reduceBEq, Int.reduceEq, tf_D3_10]
      refine ⟨ext_one g3, ?_⟩
      simp -implicitDefEqProofs only [g3, Nat.le_refl, g1, zy4, hbo, accV_agg, accV_width, accV_junk, accV_store, accV_cells, haL, List.length_map, evE, ↓evZ2, ↓evZ3, ↓Int.cast_ofNat_Int, implies_true, zy2, aFn, List.contains, List.elem, zq3, zy1, zq2, sub, zx3, zw2, zw3, zy3, gd, zq1, zw0, zq0, zx0, zx2, zx1, zy0, zw1, List.range', ↓reduceIte, reduceCtorEq, Nat.reduceEqDiff, Nat.reduceAdd, Nat.reduceLeDiff, Nat.reduceMul, Nat.reduceLT, Nat.reduceBEq, Int.reduceEq, tf_D3_10]
      refine ⟨(b', acc ++ [Tm.mk 2 1 ⟨#[]⟩ []]), by simp only [List.length_append, List.length_cons, List.length_nil]; omega, g2, zx7.mk (by simp -implicitDefEqProofs only [zy4, hbo, accV_agg, accV_width, accV_junk, accV_store, accV_cells, haL, List.length_map, evE, ↓evZ2, ↓evZ3, ↓Int.cast_ofNat_Int, implies_true, zy2, aFn, List.contains, List.elem, zq3, zy1, zq2, sub, zx3, zw2, zw3, zy3, gd, zq1, zw0, zq0, zx0, zx2, zx1, zy0, zw1, List.range', ↓reduceIte, reduceCtorEq, Nat.reduceEqDiff, Nat.reduceAdd, Nat.reduceLeDiff, Nat.reduceMul, Nat.reduceLT, Nat.reduceBEq, Int.reduceEq, tf_D3_10])⟩
    · simp -implicitDefEqProofs only [zy4, hbo, accV_agg, accV_width, accV_junk, accV_store, accV_cells, haL, List.length_map, evE, ↓evZ2, ↓evZ3, ↓Int.cast_ofNat_Int, implies_true, zy2, aFn, List.contains, List.elem, zq3, zy1, zq2, sub, zx3, zw2, zw3, zy3, gd, zq1, zw0, zq0, zx0, zx2, zx1, zy0, zw1, List.range', ↓reduceIte, reduceCtorEq, Nat.reduceEqDiff, Nat.reduceAdd, Nat.reduceLeDiff, Nat.reduceMul, Nat.reduceLT, Nat.reduceBEq, Int.reduceEq, tf_D3_10]
      have hbo := kidS_c i1
      have h4o := kidS_ne i1 (x := b4) (by rw [hW4]; simp) h54.symm
      rw [hW4] at h4o
      simp -implicitDefEqProofs only [zy4, hbo, h4o, accV_store, evE, ↓evZ2, ↓evZ3, ↓Int.cast_ofNat_Int, implies_true, zy2, aFn, List.contains, List.elem, zq3, zy1, zq2, sub, zx3, zw2, zw3, zy3, gd, zq1, zw0, zq0, zx0, zx2, zx1, zy0, zw1, List.range', ↓reduceIte, reduceCtorEq, Nat.reduceEqDiff, Nat.reduceAdd, Nat.reduceLeDiff, Nat.reduceMul, Nat.reduceLT, Nat.reduceBEq, Int.reduceEq, tf_D3_10]
      obtain ⟨g5, g6⟩ := kidS_upd (o := .cells [.int .i64 (k), .int .i64 (n), .str (s), accV 4 b ((acc).map Tm.av)]) i1 (show ((st.upd b4 (.cells [.int .i64 0, .int .i64 0, .str ⟨#[]⟩, .fslice []])).upd c (rdC bs (p + 1))) b4 ≠ none by rw [hW4]; simp) h54.symm
      refine ⟨b, _, _, g5, g6, tm_junk _, ⟨4, tm_widths _⟩, st.upd c (rdC bs (p + 1)), hdr _ _ _, p + 1, by omega, by omega, rfl, .mk (k) (n) (s) (acc), ?_⟩
      simp only [fin_agg, List.map_cons, List.map_nil, fin_int, fin_str, accV_fin, Tm.av_mk]
  simp -implicitDefEqProofs only [zy4, evE, ↓evZ2, ↓evZ3, ↓Int.cast_ofNat_Int, implies_true, zy2, aFn, List.contains, List.elem, zq3, zy1, zq2, sub, zx3, zw2, zw3, zy3, gd, zq1, zw0, zq0, zx0, zx2, zx1, zy0, zw1, List.range', ↓reduceIte, reduceCtorEq, Nat.reduceEqDiff, Nat.reduceAdd, Nat.reduceLeDiff, Nat.reduceMul, Nat.reduceLT, Nat.reduceBEq, Int.reduceEq, tf_D3_10]
  refine zq4 (fun h0 => ?_) (fun h0 => ?_)
  · simp -implicitDefEqProofs only [zy4, evE, ↓evZ2, ↓evZ3, ↓Int.cast_ofNat_Int, implies_true, zy2, aFn, List.contains, List.elem, zq3, zy1, zq2, sub, zx3, zw2, zw3, zy3, gd, zq1, zw0, zq0, zx0, zx2, zx1, zy0, zw1, List.range', ↓reduceIte, reduceCtorEq, Nat.reduceEqDiff, Nat.reduceAdd, Nat.reduceLeDiff, Nat.reduceMul, Nat.reduceLT, Nat.reduceBEq, Int.reduceEq, tf_D3_10]
    have hW5 : ∀ Z, ((st.upd b4 (.cells [.int .i64 0, .int .i64 0, .str ⟨#[]⟩, .fslice []])).upd c (rdC bs (p + 1))).upd b5 Z b4 = some (.cells [.int .i64 0, .int .i64 0, .str ⟨#[]⟩, .fslice []]) := fun Z => by rw [zy7.upd_ne _ _ h54.symm, hW4]
    refine zy5 (σ := Tm) [1000000, 5] [4, 5] (List.range 30) (fun _ _ => True) (fun i _ => [(6, .int .i64 i)]) (fun _ u => ((st.upd b4 (.cells [.int .i64 0, .int .i64 0, .str ⟨#[]⟩, .fslice []])).upd c (rdC bs (p + 1))).upd b5 (.cells u.av.cells)) (by decide +kernel)
      ⟨.mk k n s ts, trivial, ?_⟩ (fun i x u hx hlt hlt' hdr' _ => ?_) (fun u hge _ => ?_)
    · rw [Tm.av_mk]
      exact (less_kid i1 (tm_junk _) ⟨4, tm_widths _⟩).trans (Less.frL (by simp -implicitDefEqProofs only [zy4, evE, ↓evZ2, ↓evZ3, ↓Int.cast_ofNat_Int, implies_true, zy2, aFn, List.contains, List.elem, zq3, zy1, zq2, sub, zx3, zw2, zw3, zy3, gd, zq1, zw0, zq0, zx0, zx2, zx1, zy0, zw1, List.range', ↓reduceIte, reduceCtorEq, Nat.reduceEqDiff, Nat.reduceAdd, Nat.reduceLeDiff, Nat.reduceMul, Nat.reduceLT, Nat.reduceBEq, Int.reduceEq, tf_D3_10]))
    · rw [List.length_range] at hlt
      have hlt2 : decide ((i : Int) < 30) = true := by simp; omega
      have hw := wrap64 (n := (i : Int) + 1) (by omega) (by omega)
      simp -implicitDefEqProofs only [hlt2, zy4, hw, Tm.av_cells, Tm.av_store, Tm.av_agg, Tm.av_width, Tm.av_junk, take_all (Tm.av_cells _), agg_cells (Tm.av_agg _), Nat.le_refl, evE, ↓evZ2, ↓evZ3, ↓Int.cast_ofNat_Int, implies_true, zy2, aFn, List.contains, List.elem, zq3, zy1, zq2, sub, zx3, zw2, zw3, zy3, gd, zq1, zw0, zq0, zx0, zx2, zx1, zy0, zw1, List.range', ↓reduceIte, reduceCtorEq, Nat.reduceEqDiff, Nat.reduceAdd, Nat.reduceLeDiff, Nat.reduceMul, Nat.reduceLT, Nat.reduceBEq, Int.reduceEq, tf_D3_10]
      refine (c_l1StructF ⟨#[115]⟩ [u] (by simp) _).to ?_
      simp -implicitDefEqProofs only [zy7.upd_upd, zy4, hw, Tm.av_cells, Tm.av_store, Tm.av_agg, Tm.av_width, Tm.av_junk, take_all (Tm.av_cells _), agg_cells (Tm.av_agg _), Nat.le_refl, evE, ↓evZ2, ↓evZ3, ↓Int.cast_ofNat_Int, implies_true, zy2, aFn, List.contains, List.elem, zq3, zy1, zq2, sub, zx3, zw2, zw3, zy3, gd, zq1, zw0, zq0, zx0, zx2, zx1, zy0, zw1, List.range', ↓reduceIte, reduceCtorEq, Nat.reduceEqDiff, Nat.reduceAdd, Nat.reduceLeDiff, Nat.reduceMul, Nat.reduceLT, Nat.reduceBEq, Int.reduceEq, tf_D3_10]
      exact ⟨.mk 3 0 ⟨#[115]⟩ [u], zx7.mk (by simp -implicitDefEqProofs only [zy4, hw, Tm.av_cells, Tm.av_store, Tm.av_agg, Tm.av_width, Tm.av_junk, take_all (Tm.av_cells _), agg_cells (Tm.av_agg _), Nat.le_refl, evE, ↓evZ2, ↓evZ3, ↓Int.cast_ofNat_Int, implies_true, zy2, aFn, List.contains, List.elem, zq3, zy1, zq2, sub, zx3, zw2, zw3, zy3, gd, zq1, zw0, zq0, zx0, zx2, zx1, zy0, zw1, List.range', ↓reduceIte, reduceCtorEq, Nat.reduceEqDiff, Nat.reduceAdd, Nat.reduceLeDiff, Nat.reduceMul, Nat.reduceLT, Nat.reduceBEq, Int.reduceEq, tf_D3_10])⟩
    · have hge' : decide ((29 : Int) + 1 < 30) = false := rfl
      have h4o := hW5 (.cells u.av.cells)
      simp -implicitDefEqProofs only [List.length_range, hge', zy4, h4o, Tm.av_cells, Tm.av_store, Tm.av_agg, Tm.av_width, Tm.av_junk, take_all (Tm.av_cells _), agg_cells (Tm.av_agg _), Nat.le_refl, evE, ↓evZ2, ↓evZ3, ↓Int.cast_ofNat_Int, implies_true, zy2, aFn, List.contains, List.elem, zq3, zy1, zq2, sub, zx3, zw2, zw3, zy3, gd, zq1, zw0, zq0, zx0, zx2, zx1, zy0, zw1, List.range', ↓reduceIte, reduceCtorEq, Nat.reduceEqDiff, Nat.reduceAdd, Nat.reduceLeDiff, Nat.reduceMul, Nat.reduceLT, Nat.reduceBEq, Int.reduceEq, tf_D3_10]
      exact ⟨0, [], _, rfl, by simp, by simp, ⟨4, by simp⟩, st.upd c (rdC bs (p + 1)), hdr _ _ _, p + 1, by omega, by omega, rfl, u, Tm.fin0 u 0⟩
  · simp -implicitDefEqProofs only [zy4, evE, ↓evZ2, ↓evZ3, ↓Int.cast_ofNat_Int, implies_true, zy2, aFn, List.contains, List.elem, zq3, zy1, zq2, sub, zx3, zw2, zw3, zy3, gd, zq1, zw0, zq0, zx0, zx2, zx1, zy0, zw1, List.range', ↓reduceIte, reduceCtorEq, Nat.reduceEqDiff, Nat.reduceAdd, Nat.reduceLeDiff, Nat.reduceMul, Nat.reduceLT, Nat.reduceBEq, Int.reduceEq, tf_D3_10]
    have hbo := kidS_c i1
    have h4o := kidS_ne i1 (x := b4) (by rw [hW4]; simp) h54.symm
    rw [hW4] at h4o
    simp -implicitDefEqProofs only [zy4, hbo, h4o, accV_store, evE, ↓evZ2, ↓evZ3, ↓Int.cast_ofNat_Int, implies_true, zy2, aFn, List.contains, List.elem, zq3, zy1, zq2, sub, zx3, zw2, zw3, zy3, gd, zq1, zw0, zq0, zx0, zx2, zx1, zy0, zw1, List.range', ↓reduceIte, reduceCtorEq, Nat.reduceEqDiff, Nat.reduceAdd, Nat.reduceLeDiff, Nat.reduceMul, Nat.reduceLT, Nat.reduceBEq, Int.reduceEq, tf_D3_10]
    obtain ⟨g5, g6⟩ := kidS_upd (o := .cells [.int .i64 (k), .int .i64 (n), .str (s), accV 4 b ((ts).map Tm.av)]) i1 (show ((st.upd b4 (.cells [.int .i64 0, .int .i64 0, .str ⟨#[]⟩, .fslice []])).upd c (rdC bs (p + 1))) b4 ≠ none by rw [hW4]; simp) h54.symm
    refine ⟨b, _, _, g5, g6, tm_junk _, ⟨4, tm_widths _⟩, st.upd c (rdC bs (p + 1)), hdr _ _ _, p + 1, by omega, by omega, rfl, .mk (k) (n) (s) (ts), ?_⟩
    simp only [fin_agg, List.map_cons, List.map_nil, fin_int, fin_str, accV_fin, Tm.av_mk]
end Go.AW


namespace Go.AW
open Go.Proofs.Try
set_option linter.unusedSimpArgs false
set_option maxRecDepth 100000
theorem dn_two {a b : Tm} {s : ByteArray} (ha : Dn a) (hb : Dn b) : Dn (.mk 3 0 s [a, b]) :=
  dn_mk (by omega) (by simp) (by intro x hx; simp only [List.mem_cons, List.not_mem_nil, or_false] at hx; rcases hx with rfl | rfl <;> assumption)
theorem dn_one {a : Tm} {s : ByteArray} (ha : Dn a) : Dn (.mk 3 0 s [a]) :=
  dn_mk (by omega) (by simp) (by intro x hx; simp only [List.mem_cons, List.not_mem_nil, or_false] at hx; rcases hx with rfl; assumption)
theorem dn_three {a b d : Tm} {s : ByteArray} (ha : Dn a) (hb : Dn b) (hd : Dn d) : Dn (.mk 3 0 s [a, b, d]) :=
  dn_mk (by omega) (by simp) (by intro x hx; simp only [List.mem_cons, List.not_mem_nil, or_false] at hx; rcases hx with rfl | rfl | rfl <;> assumption)
theorem dn_int (x : Int) : Dn (.mk 2 x ⟨#[]⟩ []) := dn_mk (by omega) (by simp) (by simp)
theorem dn_none (s : ByteArray) : Dn (.mk 3 0 s []) := dn_mk (by omega) (by simp) (by simp)
abbrev tf_D6_37 := And.intro tI_2 (And.intro zI_2 (And.intro underlying2 (And.intro tI_3 (And.intro zI_3 (And.intro underlying3 (And.intro tI_4 (And.intro zI_4 (And.intro underlying4 (And.intro tI_5 (And.intro zI_5 (And.intro underlying5 (And.intro tI_6 (And.intro zI_6 (And.intro underlying6 (And.intro tI_7 (And.intro zI_7 (And.intro fI_7_0 (And.intro fI_7_1 (And.intro fI_7_2 (And.intro fI_7_3 (And.intro bI_7 (And.intro tI_8 (And.intro zI_8 (And.intro fI_8_0 (And.intro fI_8_1 (And.intro fI_8_2 (And.intro fI_8_3 (And.intro bI_8 (And.intro tI_9 (And.intro zI_9 (And.intro underlying9 (And.intro tI_10 (And.intro zI_10 (And.intro underlying10 (And.intro tI_11 (And.intro zI_11 (And.intro underlying11 (And.intro tI_12 (And.intro zI_12 (And.intro underlying12 (And.intro tI_13 (And.intro zI_13 (And.intro fI_13_0 (And.intro fI_13_1 (And.intro bI_13 (And.intro tI_14 (And.intro zI_14 (And.intro fI_14_0 (And.intro fI_14_1 (And.intro bI_14 (And.intro tI_15 (And.intro zI_15 (And.intro tI_16 (And.intro zI_16 (And.intro tI_17 (And.intro zI_17 (And.intro tI_18 (And.intro zI_18 (And.intro fI_18_0 (And.intro bI_18 (And.intro tI_19 (And.intro zI_19 (And.intro fI_19_0 (And.intro bI_19 (And.intro tI_21 (And.intro zI_21 (And.intro underlying21 (And.intro tI_22 (And.intro zI_22 (And.intro eI_22 (And.intro eB_22 (And.intro eZ_22 (And.intro underlying22 (And.intro tI_23 (And.intro zI_23 (And.intro eI_23 (And.intro eB_23 (And.intro eZ_23 (And.intro underlying23 (And.intro tI_25 (And.intro zI_25 (And.intro fI_25_0 (And.intro fI_25_1 (And.intro fI_25_2 (And.intro fI_25_3 (And.intro bI_25 (And.intro tI_27 (And.intro zI_27 (And.intro eI_27 (And.intro eB_27 (And.intro eZ_27 (And.intro underlying27 (And.intro tI_34 (And.intro zI_34 (And.intro tI_61 (And.intro zI_61 (And.intro eI_61 (And.intro eB_61 (And.intro eZ_61 (And.intro underlying61 (And.intro tI_63 (And.intro zI_63 (And.intro eI_63 (And.intro eB_63 (And.intro eZ_63 (And.intro underlying63 (And.intro tI_109 (And.intro zI_109 underlying109))))))))))))))))))))))))))))))))))))))))))))))))))))))))))))))))))))))))))))))))))))))))))))))))))))))))))))
theorem c_l5Arithmetic (bs : List Bt) (c : Nat) : ∀ (d p : Nat) (st : zy7), d ≤ 10 → p + 4 ^ (d + 4) ≤ 1099511627776 → RdAt st c bs p → zq7 prog 37 [.ptr c 0, .int .i64 (d : Int)] st (Dr bs c p (4 ^ (d + 4)) st DrT)
  | d, p, st, hd, hp, hR => by
    have IH := fun (d' : Nat) (hlt : d' < d) p st => c_l5Arithmetic bs c d' p st
    refine zq7.dropS ?_
    refine zw6 [1000000] func37 ntmps37 rfl rfl (by kernel_rfl) (by decide +kernel) (by show 2 ≤ _; decide +kernel) ?_
    intro _
    simp -implicitDefEqProofs only [zy4, evE, ↓evZ2, ↓evZ3, ↓Int.cast_ofNat_Int, implies_true, zy2, aFn, List.contains, List.elem, zq3, zy1, zq2, sub, zx3, zw2, zw3, zy3, gd, zq1, zw0, zq0, zx0, zx2, zx1, zy0, zw1, List.range', ↓reduceIte, reduceCtorEq, Nat.reduceEqDiff, Nat.reduceAdd, Nat.reduceLeDiff, Nat.reduceMul, Nat.reduceLT, Nat.reduceBEq, Int.reduceEq, tf_D6_37]
    intro b hb
    have hbc := hR.ne hb
    have hR' := fun o => hR.upd (o := o) hbc
    have hp256 : 256 ≤ 4 ^ (d + 4) := by rw [Nat.pow_add]; have : 1 ≤ 4 ^ d := Nat.one_le_pow _ _ (by omega); omega
    have hend : ∀ (o : AO) (q : Nat) (t : Tm), p ≤ q → q ≤ p + 4 ^ (d + 4) → Dn t → ∃ s2, Drops (((st.upd b (.cells [.int .i64 0, .int .i64 0, .str ⟨#[]⟩, .fslice []])).upd c (rdC bs q)).upd b o) s2 ∧ Dr bs c p (4 ^ (d + 4)) st DrT t.av s2 := fun o q t h1 h2 h3 => by
      refine ⟨st.upd c (rdC bs q), fun x => ?_, q, h1, h2, rfl, t, h3, rfl⟩
      by_cases e4 : x = b <;> by_cases ec : x = c <;> simp_all [zy7.upd]
    refine zq4 (fun h1 => ?_) (fun h1 => ?_)
    · simp -implicitDefEqProofs only [zy4, hbc, hbc.symm, evE, ↓evZ2, ↓evZ3, ↓Int.cast_ofNat_Int, implies_true, zy2, aFn, List.contains, List.elem, zq3, zy1, zq2, sub, zx3, zw2, zw3, zy3, gd, zq1, zw0, zq0, zx0, zx2, zx1, zy0, zw1, List.range', ↓reduceIte, reduceCtorEq, Nat.reduceEqDiff, Nat.reduceAdd, Nat.reduceLeDiff, Nat.reduceMul, Nat.reduceLT, Nat.reduceBEq, Int.reduceEq, tf_D6_37]
      refine (c_pick bs c p (by omega) 8 (by omega) (by omega) _ (hR' _)).mono ?_
      rintro _ _ ⟨k, hk, rfl, rfl⟩
      simp -implicitDefEqProofs only [zy4, hbc, hbc.symm, evE, ↓evZ2, ↓evZ3, ↓Int.cast_ofNat_Int, implies_true, zy2, aFn, List.contains, List.elem, zq3, zy1, zq2, sub, zx3, zw2, zw3, zy3, gd, zq1, zw0, zq0, zx0, zx2, zx1, zy0, zw1, List.range', ↓reduceIte, reduceCtorEq, Nat.reduceEqDiff, Nat.reduceAdd, Nat.reduceLeDiff, Nat.reduceMul, Nat.reduceLT, Nat.reduceBEq, Int.reduceEq, tf_D6_37]
      refine zq4 (fun h2 => ?_) (fun h2 => ?_)
      · simp -implicitDefEqProofs only [zy4, hbc, hbc.symm, evE, ↓evZ2, ↓evZ3, ↓Int.cast_ofNat_Int, implies_true, zy2, aFn, List.contains, List.elem, zq3, zy1, zq2, sub, zx3, zw2, zw3, zy3, gd, zq1, zw0, zq0, zx0, zx2, zx1, zy0, zw1, List.range', ↓reduceIte, reduceCtorEq, Nat.reduceEqDiff, Nat.reduceAdd, Nat.reduceLeDiff, Nat.reduceMul, Nat.reduceLT, Nat.reduceBEq, Int.reduceEq, tf_D6_37]
        refine (c_l1Draw bs c 1 (p + 1) _ (by omega) (by omega) RdAt.new).mono ?_
        rintro _ _ ⟨p1, hp1, hp1', rfl, t1, ht1, rfl⟩
        rw [zy7.upd_upd]
        simp -implicitDefEqProofs only [Tm.av_cells, Tm.av_store, Tm.av_agg, take_all (Tm.av_cells _), agg_cells (Tm.av_agg _), zy4, hbc, hbc.symm, evE, ↓evZ2, ↓evZ3, ↓Int.cast_ofNat_Int, implies_true, zy2, aFn, List.contains, List.elem, zq3, zy1, zq2, sub, zx3, zw2, zw3, zy3, gd, zq1, zw0, zq0, zx0, zx2, zx1, zy0, zw1, List.range', ↓reduceIte, reduceCtorEq, Nat.reduceEqDiff, Nat.reduceAdd, Nat.reduceLeDiff, Nat.reduceMul, Nat.reduceLT, Nat.reduceBEq, Int.reduceEq, tf_D6_37]
        exact hend _ _ t1 (by omega) (by omega) ht1
      · simp -implicitDefEqProofs only [zy4, hbc, hbc.symm, evE, ↓evZ2, ↓evZ3, ↓Int.cast_ofNat_Int, implies_true, zy2, aFn, List.contains, List.elem, zq3, zy1, zq2, sub, zx3, zw2, zw3, zy3, gd, zq1, zw0, zq0, zx0, zx2, zx1, zy0, zw1, List.range', ↓reduceIte, reduceCtorEq, Nat.reduceEqDiff, Nat.reduceAdd, Nat.reduceLeDiff, Nat.reduceMul, Nat.reduceLT, Nat.reduceBEq, Int.reduceEq, tf_D6_37]
        refine (c_numF [0, 1, 2, 7, -3, 40, 999, -5] (by simp) (by simp) bs c (p + 1) (by omega) _ RdAt.new).mono ?_
        rintro _ _ ⟨x, hx, rfl, rfl⟩
        rw [zy7.upd_upd]
        simp -implicitDefEqProofs only [zy4, hbc, hbc.symm, evE, ↓evZ2, ↓evZ3, ↓Int.cast_ofNat_Int, implies_true, zy2, aFn, List.contains, List.elem, zq3, zy1, zq2, sub, zx3, zw2, zw3, zy3, gd, zq1, zw0, zq0, zx0, zx2, zx1, zy0, zw1, List.range', ↓reduceIte, reduceCtorEq, Nat.reduceEqDiff, Nat.reduceAdd, Nat.reduceLeDiff, Nat.reduceMul, Nat.reduceLT, Nat.reduceBEq, Int.reduceEq, tf_D6_37]
        refine (c_l1Int x _).to ?_
        simp -implicitDefEqProofs only [Tm.av_cells, Tm.av_store, Tm.av_agg, take_all (Tm.av_cells _), agg_cells (Tm.av_agg _), zy4, hbc, hbc.symm, evE, ↓evZ2, ↓evZ3, ↓Int.cast_ofNat_Int, implies_true, zy2, aFn, List.contains, List.elem, zq3, zy1, zq2, sub, zx3, zw2, zw3, zy3, gd, zq1, zw0, zq0, zx0, zx2, zx1, zy0, zw1, List.range', ↓reduceIte, reduceCtorEq, Nat.reduceEqDiff, Nat.reduceAdd, Nat.reduceLeDiff, Nat.reduceMul, Nat.reduceLT, Nat.reduceBEq, Int.reduceEq, tf_D6_37]
        exact hend _ _ (.mk 2 x ⟨#[]⟩ []) (by omega) (by omega) (dn_int x)
    simp -implicitDefEqProofs only [zy4, hbc, hbc.symm, evE, ↓evZ2, ↓evZ3, ↓Int.cast_ofNat_Int, implies_true, zy2, aFn, List.contains, List.elem, zq3, zy1, zq2, sub, zx3, zw2, zw3, zy3, gd, zq1, zw0, zq0, zx0, zx2, zx1, zy0, zw1, List.range', ↓reduceIte, reduceCtorEq, Nat.reduceEqDiff, Nat.reduceAdd, Nat.reduceLeDiff, Nat.reduceMul, Nat.reduceLT, Nat.reduceBEq, Int.reduceEq, tf_D6_37]
    have hd2 : 2 ≤ d := by simp at h1; omega
    obtain ⟨d', rfl⟩ : ∃ d', d = d' + 1 := ⟨d - 1, by omega⟩
    have hpd : 4 ^ (d' + 1 + 4) = 4 * 4 ^ (d' + 4) := by rw [show d' + 1 + 4 = d' + 4 + 1 by omega, Nat.pow_succ]; omega
    have hwd : IntKind.i64.wrap (((d' + 1 : Nat) : Int) - 1) = (d' : Int) := by rw [wrap64 (by omega) (by omega)]; omega
    have hwd' : IntKind.i64.wrap ((d' : Int) + 1 - 1) = (d' : Int) := by rw [wrap64 (by omega) (by omega)]; omega
    have IHd := fun p st => IH d' (Nat.lt_succ_self _) p st
    generalize hM : 4 ^ (d' + 4) = M at *
    rw [hpd] at hp
    refine (c_ofF [⟨#[43]⟩, ⟨#[45]⟩, ⟨#[42]⟩, ⟨#[47, 47]⟩, ⟨#[109, 111, 100]⟩] (by simp) (by simp) bs c p (by omega) _ (hR' _)).mono ?_
    rintro _ _ ⟨x, hx, rfl, rfl⟩
    simp -implicitDefEqProofs only [zy4, hbc, hbc.symm, hwd', hwd, evE, ↓evZ2, ↓evZ3, ↓Int.cast_ofNat_Int, implies_true, zy2, aFn, List.contains, List.elem, zq3, zy1, zq2, sub, zx3, zw2, zw3, zy3, gd, zq1, zw0, zq0, zx0, zx2, zx1, zy0, zw1, List.range', ↓reduceIte, reduceCtorEq, Nat.reduceEqDiff, Nat.reduceAdd, Nat.reduceLeDiff, Nat.reduceMul, Nat.reduceLT, Nat.reduceBEq, Int.reduceEq, tf_D6_37]
    refine (IHd (p + 1) _ (by omega) (by omega) RdAt.new).mono ?_
    rintro _ _ ⟨p1, hp1, hp1', rfl, t1, ht1, rfl⟩
    rw [zy7.upd_upd]
    simp -implicitDefEqProofs only [zy4, hbc, hbc.symm, hwd', hwd, evE, ↓evZ2, ↓evZ3, ↓Int.cast_ofNat_Int, implies_true, zy2, aFn, List.contains, List.elem, zq3, zy1, zq2, sub, zx3, zw2, zw3, zy3, gd, zq1, zw0, zq0, zx0, zx2, zx1, zy0, zw1, List.range', ↓reduceIte, reduceCtorEq, Nat.reduceEqDiff, Nat.reduceAdd, Nat.reduceLeDiff, Nat.reduceMul, Nat.reduceLT, Nat.reduceBEq, Int.reduceEq, tf_D6_37]
    refine (IHd p1 _ (by omega) (by omega) RdAt.new).mono ?_
    rintro _ _ ⟨p2, hp2, hp2', rfl, t2, ht2, rfl⟩
    rw [zy7.upd_upd]
    simp -implicitDefEqProofs only [zy4, hbc, hbc.symm, hwd', hwd, evE, ↓evZ2, ↓evZ3, ↓Int.cast_ofNat_Int, implies_true, zy2, aFn, List.contains, List.elem, zq3, zy1, zq2, sub, zx3, zw2, zw3, zy3, gd, zq1, zw0, zq0, zx0, zx2, zx1, zy0, zw1, List.range', ↓reduceIte, reduceCtorEq, Nat.reduceEqDiff, Nat.reduceAdd, Nat.reduceLeDiff, Nat.reduceMul, Nat.reduceLT, Nat.reduceBEq, Int.reduceEq, tf_D6_37]
    refine (c_l1StructF x [t1, t2] (by simp) _).to ?_
    simp -implicitDefEqProofs only [Tm.av_cells, Tm.av_store, Tm.av_agg, take_all (Tm.av_cells _), agg_cells (Tm.av_agg _), zy4, hbc, hbc.symm, hwd', hwd, evE, ↓evZ2, ↓evZ3, ↓Int.cast_ofNat_Int, implies_true, zy2, aFn, List.contains, List.elem, zq3, zy1, zq2, sub, zx3, zw2, zw3, zy3, gd, zq1, zw0, zq0, zx0, zx2, zx1, zy0, zw1, List.range', ↓reduceIte, reduceCtorEq, Nat.reduceEqDiff, Nat.reduceAdd, Nat.reduceLeDiff, Nat.reduceMul, Nat.reduceLT, Nat.reduceBEq, Int.reduceEq, tf_D6_37]
    exact hend _ _ (.mk 3 0 x [t1, t2]) (by omega) (by omega) (dn_two ht1 ht2)
abbrev tf_D6_11 := And.intro tI_2 (And.intro zI_2 (And.intro underlying2 (And.intro tI_3 (And.intro zI_3 (And.intro underlying3 (And.intro tI_4 (And.intro zI_4 (And.intro underlying4 (And.intro tI_5 (And.intro zI_5 (And.intro underlying5 (And.intro tI_6 (And.intro zI_6 (And.intro underlying6 (And.intro tI_7 (And.intro zI_7 (And.intro fI_7_0 (And.intro fI_7_1 (And.intro fI_7_2 (And.intro fI_7_3 (And.intro bI_7 (And.intro tI_8 (And.intro zI_8 (And.intro fI_8_0 (And.intro fI_8_1 (And.intro fI_8_2 (And.intro fI_8_3 (And.intro bI_8 (And.intro tI_9 (And.intro zI_9 (And.intro underlying9 (And.intro tI_10 (And.intro zI_10 (And.intro underlying10 (And.intro tI_11 (And.intro zI_11 (And.intro underlying11 (And.intro tI_12 (And.intro zI_12 (And.intro underlying12 (And.intro tI_13 (And.intro zI_13 (And.intro fI_13_0 (And.intro fI_13_1 (And.intro bI_13 (And.intro tI_14 (And.intro zI_14 (And.intro fI_14_0 (And.intro fI_14_1 (And.intro bI_14 (And.intro tI_15 (And.intro zI_15 (And.intro tI_18 (And.intro zI_18 (And.intro fI_18_0 (And.intro bI_18 (And.intro tI_19 (And.intro zI_19 (And.intro fI_19_0 (And.intro bI_19 (And.intro tI_21 (And.intro zI_21 (And.intro underlying21 (And.intro tI_22 (And.intro zI_22 (And.intro eI_22 (And.intro eB_22 (And.intro eZ_22 (And.intro underlying22 (And.intro tI_23 (And.intro zI_23 (And.intro eI_23 (And.intro eB_23 (And.intro eZ_23 (And.intro underlying23 (And.intro tI_24 (And.intro zI_24 (And.intro fI_24_0 (And.intro fI_24_1 (And.intro fI_24_2 (And.intro fI_24_3 (And.intro bI_24 (And.intro tI_25 (And.intro zI_25 (And.intro fI_25_0 (And.intro fI_25_1 (And.intro fI_25_2 (And.intro fI_25_3 (And.intro bI_25 (And.intro tI_34 (And.intro zI_34 (And.intro tI_49 (And.intro zI_49 (And.intro fI_49_0 (And.intro fI_49_1 (And.intro bI_49 (And.intro tI_57 (And.intro zI_57 (And.intro fI_57_0 (And.intro fI_57_1 (And.intro bI_57 (And.intro tI_58 (And.intro zI_58 (And.intro fI_58_0 (And.intro fI_58_1 (And.intro bI_58 (And.intro tI_61 (And.intro zI_61 (And.intro eI_61 (And.intro eB_61 (And.intro eZ_61 (And.intro underlying61 (And.intro tI_63 (And.intro zI_63 (And.intro eI_63 (And.intro eB_63 (And.intro eZ_63 (And.intro underlying63 (And.intro tI_97 (And.intro zI_97 (And.intro underlying97 (And.intro tI_102 (And.intro zI_102 (And.intro fI_102_0 (And.intro fI_102_1 (And.intro fI_102_2 (And.intro fI_102_3 (And.intro bI_102 (And.intro tI_103 (And.intro zI_103 (And.intro fI_103_0 (And.intro fI_103_1 (And.intro fI_103_2 (And.intro fI_103_3 (And.intro bI_103 (And.intro tI_105 (And.intro zI_105 (And.intro bI_105 (And.intro tI_108 (And.intro zI_108 (And.intro underlying108 (And.intro tI_109 (And.intro zI_109 (And.intro underlying109 (And.intro tI_110 (And.intro zI_110 (And.intro underlying110 (And.intro tI_114 (And.intro zI_114 (And.intro underlying114 (And.intro tI_115 (And.intro zI_115 (And.intro fI_115_0 (And.intro fI_115_1 (And.intro fI_115_2 (And.intro fI_115_3 (And.intro fI_115_4 (And.intro fI_115_5 (And.intro fI_115_6 (And.intro fI_115_7 (And.intro fI_115_8 (And.intro fI_115_9 (And.intro fI_115_10 (And.intro bI_115 (And.intro tI_116 (And.intro zI_116 (And.intro fI_116_0 (And.intro fI_116_1 (And.intro fI_116_2 (And.intro fI_116_3 (And.intro fI_116_4 (And.intro fI_116_5 (And.intro fI_116_6 (And.intro fI_116_7 (And.intro fI_116_8 (And.intro fI_116_9 (And.intro fI_116_10 bI_116)))))))))))))))))))))))))))))))))))))))))))))))))))))))))))))))))))))))))))))))))))))))))))))))))))))))))))))))))))))))))))))))))))))))))))))))))))))))))))))))))))))))))))))))))
theorem c_l5Goal (bs : List Bt) (c p : Nat) (st : zy7) (hp : p + 100000 ≤ 1099511627776) (hR : RdAt st c bs p) : zq7 prog 11 [.ptr c 0] st (Dr bs c p 100000 st DrT) := by
  refine zq7.dropS ?_
  refine zw6 [1000000] func11 ntmps11 rfl rfl (by kernel_rfl) (by decide +kernel) (by show 1 ≤ _; decide +kernel) ?_
  intro _
  simp -implicitDefEqProofs only [zy4, evE, ↓evZ2, ↓evZ3, ↓Int.cast_ofNat_Int, implies_true, zy2, aFn, List.contains, List.elem, zq3, zy1, zq2, sub, zx3, zw2, zw3, zy3, gd, zq1, zw0, zq0, zx0, zx2, zx1, zy0, zw1, List.range', ↓reduceIte, reduceCtorEq, Nat.reduceEqDiff, Nat.reduceAdd, Nat.reduceLeDiff, Nat.reduceMul, Nat.reduceLT, Nat.reduceBEq, Int.reduceEq, tf_D6_11]
  intro b hb
  have hbc := hR.ne hb
  have hR' := fun o => hR.upd (o := o) hbc
  have hend : ∀ (o : AO) (q : Nat) (t : Tm), p ≤ q → q ≤ p + 100000 → Dn t → ∃ s2, Drops (((st.upd b (.cells [.int .i64 0, .int .i64 0, .str ⟨#[]⟩, .fslice []])).upd c (rdC bs q)).upd b o) s2 ∧ Dr bs c p 100000 st DrT t.av s2 := fun o q t h1 h2 h3 => by
    refine ⟨st.upd c (rdC bs q), fun x => ?_, q, h1, h2, rfl, t, h3, rfl⟩
    by_cases e4 : x = b <;> by_cases ec : x = c <;> simp_all [zy7.upd]
  refine (c_pick bs c p (by omega) 6 (by omega) (by omega) _ (hR' _)).mono ?_
  rintro _ _ ⟨k, hk, rfl, rfl⟩
  simp -implicitDefEqProofs only [zy4, hbc, hbc.symm, evE, ↓evZ2, ↓evZ3, ↓Int.cast_ofNat_Int, implies_true, zy2, aFn, List.contains, List.elem, zq3, zy1, zq2, sub, zx3, zw2, zw3, zy3, gd, zq1, zw0, zq0, zx0, zx2, zx1, zy0, zw1, List.range', ↓reduceIte, reduceCtorEq, Nat.reduceEqDiff, Nat.reduceAdd, Nat.reduceLeDiff, Nat.reduceMul, Nat.reduceLT, Nat.reduceBEq, Int.reduceEq, tf_D6_11]
  refine zq4 (fun h1 => ?_) (fun h1 => ?_)
  · simp -implicitDefEqProofs only [zy4, hbc, hbc.symm, evE, ↓evZ2, ↓evZ3, ↓Int.cast_ofNat_Int, implies_true, zy2, aFn, List.contains, List.elem, zq3, zy1, zq2, sub, zx3, zw2, zw3, zy3, gd, zq1, zw0, zq0, zx0, zx2, zx1, zy0, zw1, List.range', ↓reduceIte, reduceCtorEq, Nat.reduceEqDiff, Nat.reduceAdd, Nat.reduceLeDiff, Nat.reduceMul, Nat.reduceLT, Nat.reduceBEq, Int.reduceEq, tf_D6_11]
    refine (c_l1Draw bs c 1 (p + 1) _ (by omega) (by omega) RdAt.new).mono ?_
    rintro _ _ ⟨p1, hp1, hp1', rfl, t1, ht1, rfl⟩
    rw [zy7.upd_upd]
    simp -implicitDefEqProofs only [zy4, hbc, hbc.symm, evE, ↓evZ2, ↓evZ3, ↓Int.cast_ofNat_Int, implies_true, zy2, aFn, List.contains, List.elem, zq3, zy1, zq2, sub, zx3, zw2, zw3, zy3, gd, zq1, zw0, zq0, zx0, zx2, zx1, zy0, zw1, List.range', ↓reduceIte, reduceCtorEq, Nat.reduceEqDiff, Nat.reduceAdd, Nat.reduceLeDiff, Nat.reduceMul, Nat.reduceLT, Nat.reduceBEq, Int.reduceEq, tf_D6_11]
    refine (c_numF [2, 3, 1] (by simp) (by simp) bs c p1 (by omega) _ RdAt.new).mono ?_
    rintro _ _ ⟨y, hy, rfl, rfl⟩
    obtain ⟨n, rfl, hn⟩ : ∃ n : Nat, y = n ∧ n ≤ 3 := by
      simp only [List.mem_cons, List.not_mem_nil, or_false] at hy
      rcases hy with rfl | rfl | rfl
      · exact ⟨2, rfl, by omega⟩
      · exact ⟨3, rfl, by omega⟩
      · exact ⟨1, rfl, by omega⟩
    have hpw : 4 ^ (n + 4) ≤ 16384 := by
      have := Nat.pow_le_pow_right (n := 4) (by omega) (show n + 4 ≤ 7 by omega)
      simpa using this
    rw [zy7.upd_upd]
    simp -implicitDefEqProofs only [zy4, hbc, hbc.symm, evE, ↓evZ2, ↓evZ3, ↓Int.cast_ofNat_Int, implies_true, zy2, aFn, List.contains, List.elem, zq3, zy1, zq2, sub, zx3, zw2, zw3, zy3, gd, zq1, zw0, zq0, zx0, zx2, zx1, zy0, zw1, List.range', ↓reduceIte, reduceCtorEq, Nat.reduceEqDiff, Nat.reduceAdd, Nat.reduceLeDiff, Nat.reduceMul, Nat.reduceLT, Nat.reduceBEq, Int.reduceEq, tf_D6_11]
    refine (c_l5Arithmetic bs c n (p1 + 1) _ (by omega) (by omega) RdAt.new).mono ?_
    rintro _ _ ⟨p2, hp2, hp2', rfl, t2, ht2, rfl⟩
    rw [zy7.upd_upd]
    simp -implicitDefEqProofs only [zy4, hbc, hbc.symm, evE, ↓evZ2, ↓evZ3, ↓Int.cast_ofNat_Int, implies_true, zy2, aFn, List.contains, List.elem, zq3, zy1, zq2, sub, zx3, zw2, zw3, zy3, gd, zq1, zw0, zq0, zx0, zx2, zx1, zy0, zw1, List.range', ↓reduceIte, reduceCtorEq, Nat.reduceEqDiff, Nat.reduceAdd, Nat.reduceLeDiff, Nat.reduceMul, Nat.reduceLT, Nat.reduceBEq, Int.reduceEq, tf_D6_11]
    refine (c_l1StructF (⟨#[105, 115]⟩) [t1, t2] (by simp) _).to ?_
    simp -implicitDefEqProofs only [Tm.av_cells, Tm.av_store, Tm.av_agg, take_all (Tm.av_cells _), agg_cells (Tm.av_agg _), zy4, hbc, hbc.symm, evE, ↓evZ2, ↓evZ3, ↓Int.cast_ofNat_Int, implies_true, zy2, aFn, List.contains, List.elem, zq3, zy1, zq2, sub, zx3, zw2, zw3, zy3, gd, zq1, zw0, zq0, zx0, zx2, zx1, zy0, zw1, List.range', ↓reduceIte, reduceCtorEq, Nat.reduceEqDiff, Nat.reduceAdd, Nat.reduceLeDiff, Nat.reduceMul, Nat.reduceLT, Nat.reduceBEq, Int.reduceEq, tf_D6_11]
    exact hend _ _ (.mk 3 0 (⟨#[105, 115]⟩) [t1, t2]) (by omega) (by omega) (dn_two ht1 ht2)
  simp -implicitDefEqProofs only [zy4, hbc, hbc.symm, evE, ↓evZ2, ↓evZ3, ↓Int.cast_ofNat_Int, implies_true, zy2, aFn, List.contains, List.elem, zq3, zy1, zq2, sub, zx3, zw2, zw3, zy3, gd, zq1, zw0, zq0, zx0, zx2, zx1, zy0, zw1, List.range', ↓reduceIte, reduceCtorEq, Nat.reduceEqDiff, Nat.reduceAdd, Nat.reduceLeDiff, Nat.reduceMul, Nat.reduceLT, Nat.reduceBEq, Int.reduceEq, tf_D6_11]
  refine zq4 (fun h2 => ?_) (fun h2 => ?_)
  · simp -implicitDefEqProofs only [zy4, hbc, hbc.symm, evE, ↓evZ2, ↓evZ3, ↓Int.cast_ofNat_Int, implies_true, zy2, aFn, List.contains, List.elem, zq3, zy1, zq2, sub, zx3, zw2, zw3, zy3, gd, zq1, zw0, zq0, zx0, zx2, zx1, zy0, zw1, List.range', ↓reduceIte, reduceCtorEq, Nat.reduceEqDiff, Nat.reduceAdd, Nat.reduceLeDiff, Nat.reduceMul, Nat.reduceLT, Nat.reduceBEq, Int.reduceEq, tf_D6_11]
    refine (c_ofF [⟨#[60]⟩, ⟨#[62]⟩, ⟨#[61, 60]⟩, ⟨#[62, 61]⟩, ⟨#[61, 58, 61]⟩] (by simp) (by simp) bs c (p + 1) (by omega) _ RdAt.new).mono ?_
    rintro _ _ ⟨x, hx, rfl, rfl⟩
    rw [zy7.upd_upd]
    simp -implicitDefEqProofs only [zy4, hbc, hbc.symm, evE, ↓evZ2, ↓evZ3, ↓Int.cast_ofNat_Int, implies_true, zy2, aFn, List.contains, List.elem, zq3, zy1, zq2, sub, zx3, zw2, zw3, zy3, gd, zq1, zw0, zq0, zx0, zx2, zx1, zy0, zw1, List.range', ↓reduceIte, reduceCtorEq, Nat.reduceEqDiff, Nat.reduceAdd, Nat.reduceLeDiff, Nat.reduceMul, Nat.reduceLT, Nat.reduceBEq, Int.reduceEq, tf_D6_11]
    refine (c_l5Arithmetic bs c 2 (p + 1 + 1) _ (by omega) (by omega) RdAt.new).mono ?_
    rintro _ _ ⟨p1, hp1, hp1', rfl, t1, ht1, rfl⟩
    rw [zy7.upd_upd]
    simp -implicitDefEqProofs only [zy4, hbc, hbc.symm, evE, ↓evZ2, ↓evZ3, ↓Int.cast_ofNat_Int, implies_true, zy2, aFn, List.contains, List.elem, zq3, zy1, zq2, sub, zx3, zw2, zw3, zy3, gd, zq1, zw0, zq0, zx0, zx2, zx1, zy0, zw1, List.range', ↓reduceIte, reduceCtorEq, Nat.reduceEqDiff, Nat.reduceAdd, Nat.reduceLeDiff, Nat.reduceMul, Nat.reduceLT, Nat.reduceBEq, Int.reduceEq, tf_D6_11]
    refine (c_l5Arithmetic bs c 1 p1 _ (by omega) (by omega) RdAt.new).mono ?_
    rintro _ _ ⟨p2, hp2, hp2', rfl, t2, ht2, rfl⟩
    rw [zy7.upd_upd]
    simp -implicitDefEqProofs only [zy4, hbc, hbc.symm, evE, ↓evZ2, ↓evZ3, ↓Int.cast_ofNat_Int, implies_true, zy2, aFn, List.contains, List.elem, zq3, zy1, zq2, sub, zx3, zw2, zw3, zy3, gd, zq1, zw0, zq0, zx0, zx2, zx1, zy0, zw1, List.range', ↓reduceIte, reduceCtorEq, Nat.reduceEqDiff, Nat.reduceAdd, Nat.reduceLeDiff, Nat.reduceMul, Nat.reduceLT, Nat.reduceBEq, Int.reduceEq, tf_D6_11]
    refine (c_l1StructF (x) [t1, t2] (by simp) _).to ?_
    simp -implicitDefEqProofs only [Tm.av_cells, Tm.av_store, Tm.av_agg, take_all (Tm.av_cells _), agg_cells (Tm.av_agg _), zy4, hbc, hbc.symm, evE, ↓evZ2, ↓evZ3, ↓Int.cast_ofNat_Int, implies_true, zy2, aFn, List.contains, List.elem, zq3, zy1, zq2, sub, zx3, zw2, zw3, zy3, gd, zq1, zw0, zq0, zx0, zx2, zx1, zy0, zw1, List.range', ↓reduceIte, reduceCtorEq, Nat.reduceEqDiff, Nat.reduceAdd, Nat.reduceLeDiff, Nat.reduceMul, Nat.reduceLT, Nat.reduceBEq, Int.reduceEq, tf_D6_11]
    exact hend _ _ (.mk 3 0 (x) [t1, t2]) (by omega) (by omega) (dn_two ht1 ht2)
  simp -implicitDefEqProofs only [zy4, hbc, hbc.symm, evE, ↓evZ2, ↓evZ3, ↓Int.cast_ofNat_Int, implies_true, zy2, aFn, List.contains, List.elem, zq3, zy1, zq2, sub, zx3, zw2, zw3, zy3, gd, zq1, zw0, zq0, zx0, zx2, zx1, zy0, zw1, List.range', ↓reduceIte, reduceCtorEq, Nat.reduceEqDiff, Nat.reduceAdd, Nat.reduceLeDiff, Nat.reduceMul, Nat.reduceLT, Nat.reduceBEq, Int.reduceEq, tf_D6_11]
  refine zq4 (fun h3 => ?_) (fun h3 => ?_)
  · simp -implicitDefEqProofs only [zy4, hbc, hbc.symm, evE, ↓evZ2, ↓evZ3, ↓Int.cast_ofNat_Int, implies_true, zy2, aFn, List.contains, List.elem, zq3, zy1, zq2, sub, zx3, zw2, zw3, zy3, gd, zq1, zw0, zq0, zx0, zx2, zx1, zy0, zw1, List.range', ↓reduceIte, reduceCtorEq, Nat.reduceEqDiff, Nat.reduceAdd, Nat.reduceLeDiff, Nat.reduceMul, Nat.reduceLT, Nat.reduceBEq, Int.reduceEq, tf_D6_11]
    refine (c_ofF [⟨#[61]⟩, ⟨#[92, 61]⟩, ⟨#[61, 61]⟩] (by simp) (by simp) bs c (p + 1) (by omega) _ RdAt.new).mono ?_
    rintro _ _ ⟨x, hx, rfl, rfl⟩
    rw [zy7.upd_upd]
    simp -implicitDefEqProofs only [zy4, hbc, hbc.symm, evE, ↓evZ2, ↓evZ3, ↓Int.cast_ofNat_Int, implies_true, zy2, aFn, List.contains, List.elem, zq3, zy1, zq2, sub, zx3, zw2, zw3, zy3, gd, zq1, zw0, zq0, zx0, zx2, zx1, zy0, zw1, List.range', ↓reduceIte, reduceCtorEq, Nat.reduceEqDiff, Nat.reduceAdd, Nat.reduceLeDiff, Nat.reduceMul, Nat.reduceLT, Nat.reduceBEq, Int.reduceEq, tf_D6_11]
    refine (c_l1Draw bs c 2 (p + 1 + 1) _ (by omega) (by omega) RdAt.new).mono ?_
    rintro _ _ ⟨p1, hp1, hp1', rfl, t1, ht1, rfl⟩
    rw [zy7.upd_upd]
    simp -implicitDefEqProofs only [zy4, hbc, hbc.symm, evE, ↓evZ2, ↓evZ3, ↓Int.cast_ofNat_Int, implies_true, zy2, aFn, List.contains, List.elem, zq3, zy1, zq2, sub, zx3, zw2, zw3, zy3, gd, zq1, zw0, zq0, zx0, zx2, zx1, zy0, zw1, List.range', ↓reduceIte, reduceCtorEq, Nat.reduceEqDiff, Nat.reduceAdd, Nat.reduceLeDiff, Nat.reduceMul, Nat.reduceLT, Nat.reduceBEq, Int.reduceEq, tf_D6_11]
    refine (c_l1Draw bs c 3 p1 _ (by omega) (by omega) RdAt.new).mono ?_
    rintro _ _ ⟨p2, hp2, hp2', rfl, t2, ht2, rfl⟩
    rw [zy7.upd_upd]
    simp -implicitDefEqProofs only [zy4, hbc, hbc.symm, evE, ↓evZ2, ↓evZ3, ↓Int.cast_ofNat_Int, implies_true, zy2, aFn, List.contains, List.elem, zq3, zy1, zq2, sub, zx3, zw2, zw3, zy3, gd, zq1, zw0, zq0, zx0, zx2, zx1, zy0, zw1, List.range', ↓reduceIte, reduceCtorEq, Nat.reduceEqDiff, Nat.reduceAdd, Nat.reduceLeDiff, Nat.reduceMul, Nat.reduceLT, Nat.reduceBEq, Int.reduceEq, tf_D6_11]
    refine (c_l1StructF (x) [t1, t2] (by simp) _).to ?_
    simp -implicitDefEqProofs only [Tm.av_cells, Tm.av_store, Tm.av_agg, take_all (Tm.av_cells _), agg_cells (Tm.av_agg _), zy4, hbc, hbc.symm, evE, ↓evZ2, ↓evZ3, ↓Int.cast_ofNat_Int, implies_true, zy2, aFn, List.contains, List.elem, zq3, zy1, zq2, sub, zx3, zw2, zw3, zy3, gd, zq1, zw0, zq0, zx0, zx2, zx1, zy0, zw1, List.range', ↓reduceIte, reduceCtorEq, Nat.reduceEqDiff, Nat.reduceAdd, Nat.reduceLeDiff, Nat.reduceMul, Nat.reduceLT, Nat.reduceBEq, Int.reduceEq, tf_D6_11]
    exact hend _ _ (.mk 3 0 (x) [t1, t2]) (by omega) (by omega) (dn_two ht1 ht2)
  simp -implicitDefEqProofs only [zy4, hbc, hbc.symm, evE, ↓evZ2, ↓evZ3, ↓Int.cast_ofNat_Int, implies_true, zy2, aFn, List.contains, List.elem, zq3, zy1, zq2, sub, zx3, zw2, zw3, zy3, gd, zq1, zw0, zq0, zx0, zx2, zx1, zy0, zw1, List.range', ↓reduceIte, reduceCtorEq, Nat.reduceEqDiff, Nat.reduceAdd, Nat.reduceLeDiff, Nat.reduceMul, Nat.reduceLT, Nat.reduceBEq, Int.reduceEq, tf_D6_11]
  refine zq4 (fun h4 => ?_) (fun h4 => ?_)
  · simp -implicitDefEqProofs only [zy4, hbc, hbc.symm, evE, ↓evZ2, ↓evZ3, ↓Int.cast_ofNat_Int, implies_true, zy2, aFn, List.contains, List.elem, zq3, zy1, zq2, sub, zx3, zw2, zw3, zy3, gd, zq1, zw0, zq0, zx0, zx2, zx1, zy0, zw1, List.range', ↓reduceIte, reduceCtorEq, Nat.reduceEqDiff, Nat.reduceAdd, Nat.reduceLeDiff, Nat.reduceMul, Nat.reduceLT, Nat.reduceBEq, Int.reduceEq, tf_D6_11]
    refine (c_ofF [⟨#[118, 97, 114]⟩, ⟨#[110, 111, 110, 118, 97, 114]⟩, ⟨#[97, 116, 111, 109]⟩, ⟨#[105, 110, 116]⟩] (by simp) (by simp) bs c (p + 1) (by omega) _ RdAt.new).mono ?_
    rintro _ _ ⟨x, hx, rfl, rfl⟩
    rw [zy7.upd_upd]
    simp -implicitDefEqProofs only [zy4, hbc, hbc.symm, evE, ↓evZ2, ↓evZ3, ↓Int.cast_ofNat_Int, implies_true, zy2, aFn, List.contains, List.elem, zq3, zy1, zq2, sub, zx3, zw2, zw3, zy3, gd, zq1, zw0, zq0, zx0, zx2, zx1, zy0, zw1, List.range', ↓reduceIte, reduceCtorEq, Nat.reduceEqDiff, Nat.reduceAdd, Nat.reduceLeDiff, Nat.reduceMul, Nat.reduceLT, Nat.reduceBEq, Int.reduceEq, tf_D6_11]
    refine (c_l1Draw bs c 2 (p + 1 + 1) _ (by omega) (by omega) RdAt.new).mono ?_
    rintro _ _ ⟨p1, hp1, hp1', rfl, t1, ht1, rfl⟩
    rw [zy7.upd_upd]
    simp -implicitDefEqProofs only [zy4, hbc, hbc.symm, evE, ↓evZ2, ↓evZ3, ↓Int.cast_ofNat_Int, implies_true, zy2, aFn, List.contains, List.elem, zq3, zy1, zq2, sub, zx3, zw2, zw3, zy3, gd, zq1, zw0, zq0, zx0, zx2, zx1, zy0, zw1, List.range', ↓reduceIte, reduceCtorEq, Nat.reduceEqDiff, Nat.reduceAdd, Nat.reduceLeDiff, Nat.reduceMul, Nat.reduceLT, Nat.reduceBEq, Int.reduceEq, tf_D6_11]
    refine (c_l1StructF (x) [t1] (by simp) _).to ?_
    simp -implicitDefEqProofs only [Tm.av_cells, Tm.av_store, Tm.av_agg, take_all (Tm.av_cells _), agg_cells (Tm.av_agg _), zy4, hbc, hbc.symm, evE, ↓evZ2, ↓evZ3, ↓Int.cast_ofNat_Int, implies_true, zy2, aFn, List.contains, List.elem, zq3, zy1, zq2, sub, zx3, zw2, zw3, zy3, gd, zq1, zw0, zq0, zx0, zx2, zx1, zy0, zw1, List.range', ↓reduceIte, reduceCtorEq, Nat.reduceEqDiff, Nat.reduceAdd, Nat.reduceLeDiff, Nat.reduceMul, Nat.reduceLT, Nat.reduceBEq, Int.reduceEq, tf_D6_11]
    exact hend _ _ (.mk 3 0 (x) [t1]) (by omega) (by omega) (dn_one ht1)
  simp -implicitDefEqProofs only [zy4, hbc, hbc.symm, evE, ↓evZ2, ↓evZ3, ↓Int.cast_ofNat_Int, implies_true, zy2, aFn, List.contains, List.elem, zq3, zy1, zq2, sub, zx3, zw2, zw3, zy3, gd, zq1, zw0, zq0, zx0, zx2, zx1, zy0, zw1, List.range', ↓reduceIte, reduceCtorEq, Nat.reduceEqDiff, Nat.reduceAdd, Nat.reduceLeDiff, Nat.reduceMul, Nat.reduceLT, Nat.reduceBEq, Int.reduceEq, tf_D6_11]
  refine zq4 (fun h5 => ?_) (fun h5 => ?_)
  · simp -implicitDefEqProofs only [zy4, hbc, hbc.symm, evE, ↓evZ2, ↓evZ3, ↓Int.cast_ofNat_Int, implies_true, zy2, aFn, List.contains, List.elem, zq3, zy1, zq2, sub, zx3, zw2, zw3, zy3, gd, zq1, zw0, zq0, zx0, zx2, zx1, zy0, zw1, List.range', ↓reduceIte, reduceCtorEq, Nat.reduceEqDiff, Nat.reduceAdd, Nat.reduceLeDiff, Nat.reduceMul, Nat.reduceLT, Nat.reduceBEq, Int.reduceEq, tf_D6_11]
    refine (c_numF [1, 2, 0, 9] (by simp) (by simp) bs c (p + 1) (by omega) _ RdAt.new).mono ?_
    rintro _ _ ⟨y, hy, rfl, rfl⟩
    rw [zy7.upd_upd]
    simp -implicitDefEqProofs only [zy4, hbc, hbc.symm, evE, ↓evZ2, ↓evZ3, ↓Int.cast_ofNat_Int, implies_true, zy2, aFn, List.contains, List.elem, zq3, zy1, zq2, sub, zx3, zw2, zw3, zy3, gd, zq1, zw0, zq0, zx0, zx2, zx1, zy0, zw1, List.range', ↓reduceIte, reduceCtorEq, Nat.reduceEqDiff, Nat.reduceAdd, Nat.reduceLeDiff, Nat.reduceMul, Nat.reduceLT, Nat.reduceBEq, Int.reduceEq, tf_D6_11]
    refine (c_l1Int y _).to ?_
    simp -implicitDefEqProofs only [zy4, hbc, hbc.symm, evE, ↓evZ2, ↓evZ3, ↓Int.cast_ofNat_Int, implies_true, zy2, aFn, List.contains, List.elem, zq3, zy1, zq2, sub, zx3, zw2, zw3, zy3, gd, zq1, zw0, zq0, zx0, zx2, zx1, zy0, zw1, List.range', ↓reduceIte, reduceCtorEq, Nat.reduceEqDiff, Nat.reduceAdd, Nat.reduceLeDiff, Nat.reduceMul, Nat.reduceLT, Nat.reduceBEq, Int.reduceEq, tf_D6_11]
    refine (c_l1Draw bs c 3 (p + 1 + 1) _ (by omega) (by omega) RdAt.new).mono ?_
    rintro _ _ ⟨p1, hp1, hp1', rfl, t1, ht1, rfl⟩
    rw [zy7.upd_upd]
    simp -implicitDefEqProofs only [zy4, hbc, hbc.symm, evE, ↓evZ2, ↓evZ3, ↓Int.cast_ofNat_Int, implies_true, zy2, aFn, List.contains, List.elem, zq3, zy1, zq2, sub, zx3, zw2, zw3, zy3, gd, zq1, zw0, zq0, zx0, zx2, zx1, zy0, zw1, List.range', ↓reduceIte, reduceCtorEq, Nat.reduceEqDiff, Nat.reduceAdd, Nat.reduceLeDiff, Nat.reduceMul, Nat.reduceLT, Nat.reduceBEq, Int.reduceEq, tf_D6_11]
    refine (c_l1Draw bs c 2 p1 _ (by omega) (by omega) RdAt.new).mono ?_
    rintro _ _ ⟨p2, hp2, hp2', rfl, t2, ht2, rfl⟩
    rw [zy7.upd_upd]
    simp -implicitDefEqProofs only [zy4, hbc, hbc.symm, evE, ↓evZ2, ↓evZ3, ↓Int.cast_ofNat_Int, implies_true, zy2, aFn, List.contains, List.elem, zq3, zy1, zq2, sub, zx3, zw2, zw3, zy3, gd, zq1, zw0, zq0, zx0, zx2, zx1, zy0, zw1, List.range', ↓reduceIte, reduceCtorEq, Nat.reduceEqDiff, Nat.reduceAdd, Nat.reduceLeDiff, Nat.reduceMul, Nat.reduceLT, Nat.reduceBEq, Int.reduceEq, tf_D6_11]
    refine (c_l1StructF (⟨#[97, 114, 103]⟩) [Tm.mk 2 y ⟨#[]⟩ [], t1, t2] (by simp) _).to ?_
    simp -implicitDefEqProofs only [Tm.av_cells, Tm.av_store, Tm.av_agg, take_all (Tm.av_cells _), agg_cells (Tm.av_agg _), zy4, hbc, hbc.symm, evE, ↓evZ2, ↓evZ3, ↓Int.cast_ofNat_Int, implies_true, zy2, aFn, List.contains, List.elem, zq3, zy1, zq2, sub, zx3, zw2, zw3, zy3, gd, zq1, zw0, zq0, zx0, zx2, zx1, zy0, zw1, List.range', ↓reduceIte, reduceCtorEq, Nat.reduceEqDiff, Nat.reduceAdd, Nat.reduceLeDiff, Nat.reduceMul, Nat.reduceLT, Nat.reduceBEq, Int.reduceEq, tf_D6_11]
    exact hend _ _ (.mk 3 0 (⟨#[97, 114, 103]⟩) [Tm.mk 2 y ⟨#[]⟩ [], t1, t2]) (by omega) (by omega) (dn_three (dn_int y) ht1 ht2)
  · simp -implicitDefEqProofs only [zy4, hbc, hbc.symm, evE, ↓evZ2, ↓evZ3, ↓Int.cast_ofNat_Int, implies_true, zy2, aFn, List.contains, List.elem, zq3, zy1, zq2, sub, zx3, zw2, zw3, zy3, gd, zq1, zw0, zq0, zx0, zx2, zx1, zy0, zw1, List.range', ↓reduceIte, reduceCtorEq, Nat.reduceEqDiff, Nat.reduceAdd, Nat.reduceLeDiff, Nat.reduceMul, Nat.reduceLT, Nat.reduceBEq, Int.reduceEq, tf_D6_11]
    refine (c_ofF [⟨#[116, 114, 117, 101]⟩, ⟨#[102, 97, 105, 108]⟩, ⟨#[102, 111, 111]⟩, ⟨#[97, 114, 103]⟩, ⟨#[105, 115]⟩] (by simp) (by simp) bs c (p + 1) (by omega) _ RdAt.new).mono ?_
    rintro _ _ ⟨x, hx, rfl, rfl⟩
    rw [zy7.upd_upd]
    simp -implicitDefEqProofs only [zy4, hbc, hbc.symm, evE, ↓evZ2, ↓evZ3, ↓Int.cast_ofNat_Int, implies_true, zy2, aFn, List.contains, List.elem, zq3, zy1, zq2, sub, zx3, zw2, zw3, zy3, gd, zq1, zw0, zq0, zx0, zx2, zx1, zy0, zw1, List.range', ↓reduceIte, reduceCtorEq, Nat.reduceEqDiff, Nat.reduceAdd, Nat.reduceLeDiff, Nat.reduceMul, Nat.reduceLT, Nat.reduceBEq, Int.reduceEq, tf_D6_11]
    refine (c_l1StructF x [] (by simp) _).to ?_
    simp -implicitDefEqProofs only [Tm.av_cells, Tm.av_store, Tm.av_agg, take_all (Tm.av_cells _), agg_cells (Tm.av_agg _), zy4, hbc, hbc.symm, evE, ↓evZ2, ↓evZ3, ↓Int.cast_ofNat_Int, implies_true, zy2, aFn, List.contains, List.elem, zq3, zy1, zq2, sub, zx3, zw2, zw3, zy3, gd, zq1, zw0, zq0, zx0, zx2, zx1, zy0, zw1, List.range', ↓reduceIte, reduceCtorEq, Nat.reduceEqDiff, Nat.reduceAdd, Nat.reduceLeDiff, Nat.reduceMul, Nat.reduceLT, Nat.reduceBEq, Int.reduceEq, tf_D6_11]
    exact hend _ _ (.mk 3 0 x []) (by omega) (by omega) (dn_none x)
abbrev tf_D6_4 := And.intro tI_2 (And.intro zI_2 (And.intro underlying2 (And.intro tI_4 (And.intro zI_4 (And.intro underlying4 (And.intro tI_5 (And.intro zI_5 (And.intro underlying5 (And.intro tI_6 (And.intro zI_6 (And.intro underlying6 (And.intro tI_7 (And.intro zI_7 (And.intro fI_7_0 (And.intro fI_7_1 (And.intro fI_7_2 (And.intro fI_7_3 (And.intro bI_7 (And.intro tI_8 (And.intro zI_8 (And.intro fI_8_0 (And.intro fI_8_1 (And.intro fI_8_2 (And.intro fI_8_3 (And.intro bI_8 (And.intro tI_9 (And.intro zI_9 (And.intro underlying9 (And.intro tI_10 (And.intro zI_10 (And.intro underlying10 (And.intro tI_11 (And.intro zI_11 (And.intro underlying11 (And.intro tI_22 (And.intro zI_22 (And.intro eI_22 (And.intro eB_22 (And.intro eZ_22 (And.intro underlying22 (And.intro tI_25 (And.intro zI_25 (And.intro fI_25_0 (And.intro fI_25_1 (And.intro fI_25_2 (And.intro fI_25_3 (And.intro bI_25 (And.intro tI_34 zI_34))))))))))))))))))))))))))))))))))))))))))))))))
theorem c_DrawCallBuiltin (bs : List Bt) (st : zy7) : zq7 prog 4 [.slice (bs.map byteAv)] st (fun r st' => (∃ a : Tm, r = a.av) ∧ st' = st) := by
  refine zq7.drop (Q := fun r => ∃ a : Tm, r = a.av) ?_
  refine zw6 [1000000] func4 ntmps4 rfl rfl (by kernel_rfl) (by decide +kernel) (by show 1 ≤ _; decide +kernel) ?_
  intro _
  simp -implicitDefEqProofs only [zy4, evE, ↓evZ2, ↓evZ3, ↓Int.cast_ofNat_Int, implies_true, zy2, aFn, List.contains, List.elem, zq3, zy1, zq2, sub, zx3, zw2, zw3, zy3, gd, zq1, zw0, zq0, zx0, zx2, zx1, zy0, zw1, List.range', ↓reduceIte, reduceCtorEq, Nat.reduceEqDiff, Nat.reduceAdd, Nat.reduceLeDiff, Nat.reduceMul, Nat.reduceLT, Nat.reduceBEq, Int.reduceEq, tf_D6_4]
  intro b2 h2
  refine (c_l18Open bs _).mono ?_
  rintro _ _ ⟨c, bs, rfl, hc, rfl⟩
  have hc2 : c ≠ b2 := by rintro rfl; rw [zy7.upd_same] at hc; cases hc
  have hnc : st c = none := by rw [zy7.upd_ne _ _ hc2] at hc; exact hc
  simp -implicitDefEqProofs only [zy4, hc2, hc2.symm, evE, ↓evZ2, ↓evZ3, ↓Int.cast_ofNat_Int, implies_true, zy2, aFn, List.contains, List.elem, zq3, zy1, zq2, sub, zx3, zw2, zw3, zy3, gd, zq1, zw0, zq0, zx0, zx2, zx1, zy0, zw1, List.range', ↓reduceIte, reduceCtorEq, Nat.reduceEqDiff, Nat.reduceAdd, Nat.reduceLeDiff, Nat.reduceMul, Nat.reduceLT, Nat.reduceBEq, Int.reduceEq, tf_D6_4]
  refine (c_l5Goal bs c 0 _ (by omega) RdAt.new).mono ?_
  rintro _ _ ⟨p1, _, hp1, rfl, a, ha, rfl⟩
  rw [zy7.upd_upd]
  simp -implicitDefEqProofs only [zy4, hc2, hc2.symm, evE, ↓evZ2, ↓evZ3, ↓Int.cast_ofNat_Int, implies_true, zy2, aFn, List.contains, List.elem, zq3, zy1, zq2, sub, zx3, zw2, zw3, zy3, gd, zq1, zw0, zq0, zx0, zx2, zx1, zy0, zw1, List.range', ↓reduceIte, reduceCtorEq, Nat.reduceEqDiff, Nat.reduceAdd, Nat.reduceLeDiff, Nat.reduceMul, Nat.reduceLT, Nat.reduceBEq, Int.reduceEq, tf_D6_4]
  refine (c_l1Mutate bs c p1 a ha.2 _ (by omega) RdAt.new).mono ?_
  rintro _ _ ⟨p2, _, hp2, rfl, t, rfl⟩
  rw [zy7.upd_upd]
  simp -implicitDefEqProofs only [Tm.av_cells, Tm.av_store, Tm.av_agg, take_all (Tm.av_cells _), agg_cells (Tm.av_agg _), zy4, hc2, hc2.symm, evE, ↓evZ2, ↓evZ3, ↓Int.cast_ofNat_Int, implies_true, zy2, aFn, List.contains, List.elem, zq3, zy1, zq2, sub, zx3, zw2, zw3, zy3, gd, zq1, zw0, zq0, zx0, zx2, zx1, zy0, zw1, List.range', ↓reduceIte, reduceCtorEq, Nat.reduceEqDiff, Nat.reduceAdd, Nat.reduceLeDiff, Nat.reduceMul, Nat.reduceLT, Nat.reduceBEq, Int.reduceEq, tf_D6_4]
  refine ⟨fun x => ?_, t, rfl⟩
  by_cases e2 : x = b2 <;> by_cases ec : x = c <;> simp_all [zy7.upd]
end Go.AW


namespace Go.AW
open Go.Proofs.Try
set_option linter.unusedSimpArgs false
set_option maxRecDepth 100000
end Go.AW


namespace Go.AW
open Go.Proofs.Try
set_option linter.unusedSimpArgs false
set_option maxRecDepth 100000
theorem tm_same_refl (t : Tm) : t.same t = true := (Tm.same_eq t t).2 rfl
abbrev tf_L1_7 := And.intro tI_2 (And.intro zI_2 (And.intro underlying2 (And.intro tI_3 (And.intro zI_3 (And.intro underlying3 (And.intro tI_4 (And.intro zI_4 (And.intro underlying4 (And.intro tI_5 (And.intro zI_5 (And.intro underlying5 (And.intro tI_6 (And.intro zI_6 (And.intro underlying6 (And.intro tI_7 (And.intro zI_7 (And.intro fI_7_0 (And.intro fI_7_1 (And.intro fI_7_2 (And.intro fI_7_3 (And.intro bI_7 (And.intro tI_8 (And.intro zI_8 (And.intro fI_8_0 (And.intro fI_8_1 (And.intro fI_8_2 (And.intro fI_8_3 (And.intro bI_8 (And.intro tI_9 (And.intro zI_9 (And.intro underlying9 (And.intro tI_11 (And.intro zI_11 (And.intro underlying11 (And.intro tI_12 (And.intro zI_12 (And.intro underlying12 (And.intro tI_13 (And.intro zI_13 (And.intro fI_13_0 (And.intro fI_13_1 (And.intro bI_13 (And.intro tI_21 (And.intro zI_21 (And.intro underlying21 (And.intro tI_25 (And.intro zI_25 (And.intro fI_25_0 (And.intro fI_25_1 (And.intro fI_25_2 (And.intro fI_25_3 (And.intro bI_25 (And.intro tI_27 (And.intro zI_27 (And.intro eI_27 (And.intro eB_27 (And.intro eZ_27 (And.intro underlying27 (And.intro tI_39 (And.intro zI_39 (And.intro tI_49 (And.intro zI_49 (And.intro fI_49_0 (And.intro fI_49_1 bI_49))))))))))))))))))))))))))))))))))))))))))))))))))))))))))))))))
theorem c_pgBinds (bs : List Bd) (st : zy7) : zq7 prog 7 [.slice (bs.map bdAv), .slice (bs.map bdAv)] st (fun r st' => r = .bool true ∧ st' = st) := by
  refine zw6 [1000000] func7 ntmps7 rfl rfl (by kernel_rfl) (by decide +kernel) (by show 2 ≤ _; decide +kernel) ?_
  simp only [fitsL, AV.fits, and_true, List.length_map]
  intro ⟨⟨hl, _⟩, _⟩
  simp -implicitDefEqProofs only [decide_true, List.length_map, evE, ↓evZ2, ↓evZ3, ↓Int.cast_ofNat_Int, implies_true, zy2, aFn, List.contains, List.elem, zq3, zy1, zq2, sub, zx3, zw2, zw3, zy3, gd, zq1, zw0, zq0, zx0, zx2, zx1, zy0, zw1, List.range', ↓reduceIte, reduceCtorEq, Nat.reduceEqDiff, Nat.reduceAdd, Nat.reduceLeDiff, Nat.reduceMul, Nat.reduceLT, Nat.reduceBEq, Int.reduceEq, tf_L1_7]
  refine zy5 (σ := Unit) [1000000] [0, 1] bs (fun _ _ => True) (fun i _ => [(4, .bool false), (5, .int .i64 i)]) (fun _ _ => st) (by decide +kernel) ⟨(), trivial, zx7.mk (by simp -implicitDefEqProofs only [List.length_map, evE, ↓evZ2, ↓evZ3, ↓Int.cast_ofNat_Int, implies_true, zy2, aFn, List.contains, List.elem, zq3, zy1, zq2, sub, zx3, zw2, zw3, zy3, gd, zq1, zw0, zq0, zx0, zx2, zx1, zy0, zw1, List.range', ↓reduceIte, reduceCtorEq, Nat.reduceEqDiff, Nat.reduceAdd, Nat.reduceLeDiff, Nat.reduceMul, Nat.reduceLT, Nat.reduceBEq, Int.reduceEq, tf_L1_7])⟩ (fun i x _ hx hlt hlt' hdr _ => ?_) (fun _ hge _ => ?_)
  case refine_2 =>
    simp -implicitDefEqProofs only [hge, List.length_map, evE, ↓evZ2, ↓evZ3, ↓Int.cast_ofNat_Int, implies_true, zy2, aFn, List.contains, List.elem, zq3, zy1, zq2, sub, zx3, zw2, zw3, zy3, gd, zq1, zw0, zq0, zx0, zx2, zx1, zy0, zw1, List.range', ↓reduceIte, reduceCtorEq, Nat.reduceEqDiff, Nat.reduceAdd, Nat.reduceLeDiff, Nat.reduceMul, Nat.reduceLT, Nat.reduceBEq, Int.reduceEq, tf_L1_7]
  obtain ⟨n, t⟩ := x
  have hw := wrap64 (n := (i : Int) + 1) (by omega) (by omega)
  have hat := ev_at (av := bdAv) eI_27 hx (bdAv_width _)
  have hbd : bdAv (n, t) = .agg (.int .i64 n :: t.av.cells) := rfl
  simp -implicitDefEqProofs only [hlt', List.length_map, hat, hbd, bdAv_width, Tm.av_agg, Tm.av_width, take_all (Tm.av_cells _), agg_cells (Tm.av_agg _), Tm.av_cells, Nat.le_refl, hw, evE, ↓evZ2, ↓evZ3, ↓Int.cast_ofNat_Int, implies_true, zy2, aFn, List.contains, List.elem, zq3, zy1, zq2, sub, zx3, zw2, zw3, zy3, gd, zq1, zw0, zq0, zx0, zx2, zx1, zy0, zw1, List.range', ↓reduceIte, reduceCtorEq, Nat.reduceEqDiff, Nat.reduceAdd, Nat.reduceLeDiff, Nat.reduceMul, Nat.reduceLT, Nat.reduceBEq, Int.reduceEq, tf_L1_7]
  refine zq5 [(0, 1), (1, 1), (2, 1), (3, 1), (4, 1), (5, 1), (6, 1), (7, 1), (8, 1), (9, 1), (10, 1), (11, 1), (12, 1), (13, 1), (14, 1), (15, 1), (16, 1), (17, 1), (18, 1), (19, 1), (20, 1), (21, 1), (22, 0), (23, 1), (24, 1)] [0, 1, 2, 3, 4, 5, 6, 7, 8, 9, 10, 11, 12, 13, 14, 15, 16, 17, 18, 19, 20, 21, 23, 24] none0' mixed (by decide +kernel) (by decide +kernel) (by decide +kernel) rfl ext_none ?_
  simp -implicitDefEqProofs only [decide_true, beq_self_eq_true, List.length_map, hat, hbd, bdAv_width, Tm.av_agg, Tm.av_width, take_all (Tm.av_cells _), agg_cells (Tm.av_agg _), Tm.av_cells, Nat.le_refl, hw, evE, ↓evZ2, ↓evZ3, ↓Int.cast_ofNat_Int, implies_true, zy2, aFn, List.contains, List.elem, zq3, zy1, zq2, sub, zx3, zw2, zw3, zy3, gd, zq1, zw0, zq0, zx0, zx2, zx1, zy0, zw1, List.range', ↓reduceIte, reduceCtorEq, Nat.reduceEqDiff, Nat.reduceAdd, Nat.reduceLeDiff, Nat.reduceMul, Nat.reduceLT, Nat.reduceBEq, Int.reduceEq, tf_L1_7]
  refine (c_impl_TermSame t t _).to ?_
  rw [tm_same_refl]
  simp -implicitDefEqProofs only [List.length_map, hat, hbd, bdAv_width, Tm.av_agg, Tm.av_width, take_all (Tm.av_cells _), agg_cells (Tm.av_agg _), Tm.av_cells, Nat.le_refl, hw, evE, ↓evZ2, ↓evZ3, ↓Int.cast_ofNat_Int, implies_true, zy2, aFn, List.contains, List.elem, zq3, zy1, zq2, sub, zx3, zw2, zw3, zy3, gd, zq1, zw0, zq0, zx0, zx2, zx1, zy0, zw1, List.range', ↓reduceIte, reduceCtorEq, Nat.reduceEqDiff, Nat.reduceAdd, Nat.reduceLeDiff, Nat.reduceMul, Nat.reduceLT, Nat.reduceBEq, Int.reduceEq, tf_L1_7]
  refine ⟨ext_none, ?_⟩
  exact ⟨(), zx7.mk (by simp -implicitDefEqProofs only [List.length_map, hat, hbd, bdAv_width, Tm.av_agg, Tm.av_width, take_all (Tm.av_cells _), agg_cells (Tm.av_agg _), Tm.av_cells, Nat.le_refl, hw, evE, ↓evZ2, ↓evZ3, ↓Int.cast_ofNat_Int, implies_true, zy2, aFn, List.contains, List.elem, zq3, zy1, zq2, sub, zx3, zw2, zw3, zy3, gd, zq1, zw0, zq0, zx0, zx2, zx1, zy0, zw1, List.range', ↓reduceIte, reduceCtorEq, Nat.reduceEqDiff, Nat.reduceAdd, Nat.reduceLeDiff, Nat.reduceMul, Nat.reduceLT, Nat.reduceBEq, Int.reduceEq, tf_L1_7])⟩
end Go.AW


namespace Go.AW
open Go.Proofs.Try
set_option linter.unusedSimpArgs false
set_option maxRecDepth 100000
abbrev tf_B13_3 := And.intro tI_2 (And.intro zI_2 (And.intro underlying2 (And.intro tI_3 (And.intro zI_3 (And.intro underlying3 (And.intro tI_4 (And.intro zI_4 (And.intro underlying4 (And.intro tI_5 (And.intro zI_5 (And.intro underlying5 (And.intro tI_6 (And.intro zI_6 (And.intro underlying6 (And.intro tI_7 (And.intro zI_7 (And.intro fI_7_0 (And.intro fI_7_1 (And.intro fI_7_2 (And.intro fI_7_3 (And.intro bI_7 (And.intro tI_8 (And.intro zI_8 (And.intro fI_8_0 (And.intro fI_8_1 (And.intro fI_8_2 (And.intro fI_8_3 (And.intro bI_8 (And.intro tI_9 (And.intro zI_9 (And.intro underlying9 (And.intro tI_10 (And.intro zI_10 (And.intro underlying10 (And.intro tI_12 (And.intro zI_12 (And.intro underlying12 (And.intro tI_13 (And.intro zI_13 (And.intro fI_13_0 (And.intro fI_13_1 (And.intro bI_13 (And.intro tI_15 (And.intro zI_15 (And.intro tI_16 (And.intro zI_16 (And.intro tI_18 (And.intro zI_18 (And.intro fI_18_0 (And.intro bI_18 (And.intro tI_19 (And.intro zI_19 (And.intro fI_19_0 (And.intro bI_19 (And.intro tI_22 (And.intro zI_22 (And.intro eI_22 (And.intro eB_22 (And.intro eZ_22 (And.intro underlying22 (And.intro tI_23 (And.intro zI_23 (And.intro eI_23 (And.intro eB_23 (And.intro eZ_23 (And.intro underlying23 (And.intro tI_24 (And.intro zI_24 (And.intro fI_24_0 (And.intro fI_24_1 (And.intro fI_24_2 (And.intro fI_24_3 (And.intro bI_24 (And.intro tI_25 (And.intro zI_25 (And.intro fI_25_0 (And.intro fI_25_1 (And.intro fI_25_2 (And.intro fI_25_3 (And.intro bI_25 (And.intro tI_27 (And.intro zI_27 (And.intro eI_27 (And.intro eB_27 (And.intro eZ_27 (And.intro underlying27 (And.intro tI_49 (And.intro zI_49 (And.intro fI_49_0 (And.intro fI_49_1 (And.intro bI_49 (And.intro tI_61 (And.intro zI_61 (And.intro eI_61 (And.intro eB_61 (And.intro eZ_61 (And.intro underlying61 (And.intro tI_97 (And.intro zI_97 (And.intro underlying97 (And.intro tI_114 (And.intro zI_114 underlying114))))))))))))))))))))))))))))))))))))))))))))))))))))))))))))))))))))))))))))))))))))))))))))))))))))))
theorem c_FnCallBuiltin (code : List Bt) (st : zy7) : zq7 prog 3 [.slice (code.map byteAv)] st (fun r _ => r = .bool true) := by
  refine zw6 [1000000] func3 ntmps3 rfl rfl (by kernel_rfl) (by decide +kernel) (by show 1 ≤ _; decide +kernel) ?_
  intro _
  simp -implicitDefEqProofs only [List.length_map, zy4, evE, ↓evZ2, ↓evZ3, ↓Int.cast_ofNat_Int, implies_true, zy2, aFn, List.contains, List.elem, zq3, zy1, zq2, sub, zx3, zw2, zw3, zy3, gd, zq1, zw0, zq0, zx0, zx2, zx1, zy0, zw1, List.range', ↓reduceIte, reduceCtorEq, Nat.reduceEqDiff, Nat.reduceAdd, Nat.reduceLeDiff, Nat.reduceMul, Nat.reduceLT, Nat.reduceBEq, Int.reduceEq, tf_B13_3]
  refine zq4 (fun h0 => ?_) (fun h0 => ?_)
  · simp -implicitDefEqProofs only [List.length_map, zy4, evE, ↓evZ2, ↓evZ3, ↓Int.cast_ofNat_Int, implies_true, zy2, aFn, List.contains, List.elem, zq3, zy1, zq2, sub, zx3, zw2, zw3, zy3, gd, zq1, zw0, zq0, zx0, zx2, zx1, zy0, zw1, List.range', ↓reduceIte, reduceCtorEq, Nat.reduceEqDiff, Nat.reduceAdd, Nat.reduceLeDiff, Nat.reduceMul, Nat.reduceLT, Nat.reduceBEq, Int.reduceEq, tf_B13_3]
  simp -implicitDefEqProofs only [List.length_map, zy4, evE, ↓evZ2, ↓evZ3, ↓Int.cast_ofNat_Int, implies_true, zy2, aFn, List.contains, List.elem, zq3, zy1, zq2, sub, zx3, zw2, zw3, zy3, gd, zq1, zw0, zq0, zx0, zx2, zx1, zy0, zw1, List.range', ↓reduceIte, reduceCtorEq, Nat.reduceEqDiff, Nat.reduceAdd, Nat.reduceLeDiff, Nat.reduceMul, Nat.reduceLT, Nat.reduceBEq, Int.reduceEq, tf_B13_3]
  refine (c_DrawCallBuiltin code _).mono ?_
  rintro _ s1 ⟨⟨g, rfl⟩, rfl⟩
  simp -implicitDefEqProofs only [take_all (Tm.av_cells g), agg_cells (Tm.av_agg g), Tm.av_agg, Tm.av_width, Tm.av_store, Tm.av_junk, Tm.av_cells, Nat.le_refl, zy4, evE, ↓evZ2, ↓evZ3, ↓Int.cast_ofNat_Int, implies_true, zy2, aFn, List.contains, List.elem, zq3, zy1, zq2, sub, zx3, zw2, zw3, zy3, gd, zq1, zw0, zq0, zx0, zx2, zx1, zy0, zw1, List.range', ↓reduceIte, reduceCtorEq, Nat.reduceEqDiff, Nat.reduceAdd, Nat.reduceLeDiff, Nat.reduceMul, Nat.reduceLT, Nat.reduceBEq, Int.reduceEq, tf_B13_3]
  have hci := fun s => c_impl_CallBuiltin g s
  have hcs := fun s => c_spec_CallBuiltin g s
  have hfail := @callB_fail g
  have hagain := @callB_again g
  have hlen := callB_len g
  obtain ⟨bs, code2, hcb⟩ : ∃ bs code2, callB g = (bs, code2) := ⟨_, _, rfl⟩
  rw [hcb] at hci hcs hfail hagain hlen
  simp only [callAv] at hci hcs
  simp only at hfail hlen
  refine (hci _).to ?_
  simp -implicitDefEqProofs only [Tm.av_agg, Tm.av_width, Tm.av_store, Tm.av_junk, Tm.av_cells, Nat.le_refl, zy4, evE, ↓evZ2, ↓evZ3, ↓Int.cast_ofNat_Int, implies_true, zy2, aFn, List.contains, List.elem, zq3, zy1, zq2, sub, zx3, zw2, zw3, zy3, gd, zq1, zw0, zq0, zx0, zx2, zx1, zy0, zw1, List.range', ↓reduceIte, reduceCtorEq, Nat.reduceEqDiff, Nat.reduceAdd, Nat.reduceLeDiff, Nat.reduceMul, Nat.reduceLT, Nat.reduceBEq, Int.reduceEq, tf_B13_3]
  refine (hcs _).to ?_
  simp -implicitDefEqProofs only [beq_self_eq_true, decide_true, Bool.not_true, Tm.av_agg, Tm.av_width, Tm.av_store, Tm.av_junk, Tm.av_cells, Nat.le_refl, zy4, evE, ↓evZ2, ↓evZ3, ↓Int.cast_ofNat_Int, implies_true, zy2, aFn, List.contains, List.elem, zq3, zy1, zq2, sub, zx3, zw2, zw3, zy3, gd, zq1, zw0, zq0, zx0, zx2, zx1, zy0, zw1, List.range', ↓reduceIte, reduceCtorEq, Nat.reduceEqDiff, Nat.reduceAdd, Nat.reduceLeDiff, Nat.reduceMul, Nat.reduceLT, Nat.reduceBEq, Int.reduceEq, tf_B13_3]
  refine (c_pgBinds bs _).to ?_
  simp -implicitDefEqProofs only [beq_self_eq_true, decide_true, Bool.not_true, Tm.av_agg, Tm.av_width, Tm.av_store, Tm.av_junk, Tm.av_cells, Nat.le_refl, zy4, evE, ↓evZ2, ↓evZ3, ↓Int.cast_ofNat_Int, implies_true, zy2, aFn, List.contains, List.elem, zq3, zy1, zq2, sub, zx3, zw2, zw3, zy3, gd, zq1, zw0, zq0, zx0, zx2, zx1, zy0, zw1, List.range', ↓reduceIte, reduceCtorEq, Nat.reduceEqDiff, Nat.reduceAdd, Nat.reduceLeDiff, Nat.reduceMul, Nat.reduceLT, Nat.reduceBEq, Int.reduceEq, tf_B13_3]
  refine zq4 (fun h1 => ?_) (fun h1 => ?_)
  · have h1' : code2 ≠ 0 := by simpa using h1
    simp -implicitDefEqProofs only [beq_self_eq_true, decide_true, Bool.not_true, Tm.av_agg, Tm.av_width, Tm.av_store, Tm.av_junk, Tm.av_cells, Nat.le_refl, zy4, evE, ↓evZ2, ↓evZ3, ↓Int.cast_ofNat_Int, implies_true, zy2, aFn, List.contains, List.elem, zq3, zy1, zq2, sub, zx3, zw2, zw3, zy3, gd, zq1, zw0, zq0, zx0, zx2, zx1, zy0, zw1, List.range', ↓reduceIte, reduceCtorEq, Nat.reduceEqDiff, Nat.reduceAdd, Nat.reduceLeDiff, Nat.reduceMul, Nat.reduceLT, Nat.reduceBEq, Int.reduceEq, tf_B13_3]
    refine (c_pgBinds bs _).to ?_
    obtain rfl := hfail h1'
    simp -implicitDefEqProofs only [beq_self_eq_true, decide_true, Bool.not_true, Tm.av_agg, Tm.av_width, Tm.av_store, Tm.av_junk, Tm.av_cells, Nat.le_refl, zy4, evE, ↓evZ2, ↓evZ3, ↓Int.cast_ofNat_Int, implies_true, zy2, aFn, List.contains, List.elem, zq3, zy1, zq2, sub, zx3, zw2, zw3, zy3, gd, zq1, zw0, zq0, zx0, zx2, zx1, zy0, zw1, List.range', ↓reduceIte, reduceCtorEq, Nat.reduceEqDiff, Nat.reduceAdd, Nat.reduceLeDiff, Nat.reduceMul, Nat.reduceLT, Nat.reduceBEq, Int.reduceEq, tf_B13_3]
  have h1' : code2 = 0 := by simpa using h1
  subst h1'
  simp -implicitDefEqProofs only [Tm.av_agg, Tm.av_width, Tm.av_store, Tm.av_junk, Tm.av_cells, Nat.le_refl, zy4, evE, ↓evZ2, ↓evZ3, ↓Int.cast_ofNat_Int, implies_true, zy2, aFn, List.contains, List.elem, zq3, zy1, zq2, sub, zx3, zw2, zw3, zy3, gd, zq1, zw0, zq0, zx0, zx2, zx1, zy0, zw1, List.range', ↓reduceIte, reduceCtorEq, Nat.reduceEqDiff, Nat.reduceAdd, Nat.reduceLeDiff, Nat.reduceMul, Nat.reduceLT, Nat.reduceBEq, Int.reduceEq, tf_B13_3]
  have hca := fun s => c_impl_ApplyBinds g bs s
  cases hx : appB g bs with
  | none =>
    rw [hx] at hca
    simp only [optAv] at hca
    refine (hca _).to ?_
    simp -implicitDefEqProofs only [Tm.av_agg, Tm.av_width, Tm.av_store, Tm.av_junk, Tm.av_cells, Nat.le_refl, zy4, evE, ↓evZ2, ↓evZ3, ↓Int.cast_ofNat_Int, implies_true, zy2, aFn, List.contains, List.elem, zq3, zy1, zq2, sub, zx3, zw2, zw3, zy3, gd, zq1, zw0, zq0, zx0, zx2, zx1, zy0, zw1, List.range', ↓reduceIte, reduceCtorEq, Nat.reduceEqDiff, Nat.reduceAdd, Nat.reduceLeDiff, Nat.reduceMul, Nat.reduceLT, Nat.reduceBEq, Int.reduceEq, tf_B13_3]
    refine (c_impl_CallBuiltin Tm.zero _).to ?_
    simp only [callAv]
    simp -implicitDefEqProofs only [Tm.av_agg, Tm.av_width, Tm.av_store, Tm.av_junk, Tm.av_cells, Nat.le_refl, zy4, evE, ↓evZ2, ↓evZ3, ↓Int.cast_ofNat_Int, implies_true, zy2, aFn, List.contains, List.elem, zq3, zy1, zq2, sub, zx3, zw2, zw3, zy3, gd, zq1, zw0, zq0, zx0, zx2, zx1, zy0, zw1, List.range', ↓reduceIte, reduceCtorEq, Nat.reduceEqDiff, Nat.reduceAdd, Nat.reduceLeDiff, Nat.reduceMul, Nat.reduceLT, Nat.reduceBEq, Int.reduceEq, tf_B13_3]
  | some x =>
    rw [hx] at hca
    simp only [optAv] at hca
    have hcx := fun s => c_impl_CallBuiltin x s
    rw [hagain rfl hx] at hcx
    simp only [callAv] at hcx
    refine (hca _).to ?_
    simp -implicitDefEqProofs only [Tm.av_agg, Tm.av_width, Tm.av_store, Tm.av_junk, Tm.av_cells, Nat.le_refl, zy4, evE, ↓evZ2, ↓evZ3, ↓Int.cast_ofNat_Int, implies_true, zy2, aFn, List.contains, List.elem, zq3, zy1, zq2, sub, zx3, zw2, zw3, zy3, gd, zq1, zw0, zq0, zx0, zx2, zx1, zy0, zw1, List.range', ↓reduceIte, reduceCtorEq, Nat.reduceEqDiff, Nat.reduceAdd, Nat.reduceLeDiff, Nat.reduceMul, Nat.reduceLT, Nat.reduceBEq, Int.reduceEq, tf_B13_3]
    refine (hcx _).to ?_
    simp -implicitDefEqProofs only [Tm.av_agg, Tm.av_width, Tm.av_store, Tm.av_junk, Tm.av_cells, Nat.le_refl, zy4, evE, ↓evZ2, ↓evZ3, ↓Int.cast_ofNat_Int, implies_true, zy2, aFn, List.contains, List.elem, zq3, zy1, zq2, sub, zx3, zw2, zw3, zy3, gd, zq1, zw0, zq0, zx0, zx2, zx1, zy0, zw1, List.range', ↓reduceIte, reduceCtorEq, Nat.reduceEqDiff, Nat.reduceAdd, Nat.reduceLeDiff, Nat.reduceMul, Nat.reduceLT, Nat.reduceBEq, Int.reduceEq, tf_B13_3]
    have hg : g.av = .agg [.int .i64 g.k, .int .i64 g.n, .str g.s, .slice (g.ts.map Tm.av)] := by
      cases g
      exact Tm.av_mk ..
    simp -implicitDefEqProofs only [hg, Tm.av_agg, Tm.av_width, Tm.av_store, Tm.av_junk, Tm.av_cells, Nat.le_refl, zy4, evE, ↓evZ2, ↓evZ3, ↓Int.cast_ofNat_Int, implies_true, zy2, aFn, List.contains, List.elem, zq3, zy1, zq2, sub, zx3, zw2, zw3, zy3, gd, zq1, zw0, zq0, zx0, zx2, zx1, zy0, zw1, List.range', ↓reduceIte, reduceCtorEq, Nat.reduceEqDiff, Nat.reduceAdd, Nat.reduceLeDiff, Nat.reduceMul, Nat.reduceLT, Nat.reduceBEq, Int.reduceEq, tf_B13_3]
    refine zx4 (fun h2 => ?_) (fun h2 => ?_)
    · simp -implicitDefEqProofs only [h2, beq_self_eq_true, decide_true, Tm.av_agg, Tm.av_width, Tm.av_store, Tm.av_junk, Tm.av_cells, Nat.le_refl, zy4, evE, ↓evZ2, ↓evZ3, ↓Int.cast_ofNat_Int, implies_true, zy2, aFn, List.contains, List.elem, zq3, zy1, zq2, sub, zx3, zw2, zw3, zy3, gd, zq1, zw0, zq0, zx0, zx2, zx1, zy0, zw1, List.range', ↓reduceIte, reduceCtorEq, Nat.reduceEqDiff, Nat.reduceAdd, Nat.reduceLeDiff, Nat.reduceMul, Nat.reduceLT, Nat.reduceBEq, Int.reduceEq, tf_B13_3]
    · simp -implicitDefEqProofs only [h2, beq_self_eq_true, decide_true, Tm.av_agg, Tm.av_width, Tm.av_store, Tm.av_junk, Tm.av_cells, Nat.le_refl, zy4, evE, ↓evZ2, ↓evZ3, ↓Int.cast_ofNat_Int, implies_true, zy2, aFn, List.contains, List.elem, zq3, zy1, zq2, sub, zx3, zw2, zw3, zy3, gd, zq1, zw0, zq0, zx0, zx2, zx1, zy0, zw1, List.range', ↓reduceIte, reduceCtorEq, Nat.reduceEqDiff, Nat.reduceAdd, Nat.reduceLeDiff, Nat.reduceMul, Nat.reduceLT, Nat.reduceBEq, Int.reduceEq, tf_B13_3]
end Go.AW

/- What a law is handed, read as data; the law's row from a contract. -/
namespace Go.AW
open Go.ChangeShapes Go.WideShapes Go.ChangeAt Go.RowKit
abbrev none0 : zy7 := fun _ => none
section
variable {H : Type} {enc : TypeId × Value → H} {P : Program} {w : World}
def Reads (enc : TypeId × Value → H) (P : Program) (w : World) (t n : Nat) {α : Type} (av : α → AV) : Prop :=
  ∀ cs x, DataW.trod enc P w 0 (fun _ => true) true n t cs = some x → ∃ a : α, VC w.heap none0 (av a) cs
theorem VEs_each {h : Heap} {st : zy7} {b k : Nat} : ∀ {es : List AV} {off : Nat}, (∀ e ∈ es, e.width = k) → (∀ (i : Nat) e, es[i]? = some e → VE h st b (off + i * k) e) → VEs h st b off es
  | [], _, _, _ => by simp [VEs]
  | e :: es, off, hw, h => by
    simp only [VEs]
    refine ⟨by simpa [VE] using h 0 e rfl, VEs_each (fun x hx => hw x (by simp [hx])) fun i x hx => ?_⟩
    have := h (i + 1) x (by simpa using hx)
    rw [hw e (by simp), Nat.add_assoc, ← Nat.succ_mul' k i] 
    exact this
where Nat.succ_mul' (k i : Nat) : (i + 1) * k = k + i * k := by rw [Nat.succ_mul]; omega
theorem cell_spot {a : Addr} {v : Value} (h : w.cell? a = some v) : a.spot = none ∧ a.block < w.heap.size ∧ cellAt w.heap a.block a.off = some v := by
  unfold World.cell? at h
  split at h
  · rename_i c t fr hb
    split at h
    · cases h
    · rename_i hs
      refine ⟨by simpa using hs, (Array.getElem?_eq_some_iff.1 hb).1, by simp [cellAt, hb, h]⟩
  · cases h
theorem cells_at {a : Addr} {n : Nat} {cs : List Value} (hs : a.spot = none) (h : w.cells? 0 a n = some cs) : cellsAt w.heap a.block a.off cs ∧ cs.length = n := by
  obtain ⟨_, hl, hc⟩ := World.cells?_some h
  refine ⟨?_, hl⟩
  have : ∀ (l : List Value) (k : Nat), (∀ i, i < l.length → w.cell? (a.add (k + i)) = l[i]?) → cellsAt w.heap a.block (a.off + k) l := by
    intro l
    induction l with
    | nil => intro _ _; trivial
    | cons v l ih =>
      intro k hk
      refine ⟨?_, ?_⟩
      · have := (cell_spot (hk 0 (by simp))).2.2
        obtain ⟨b, off, sp⟩ := a
        simp only at hs
        subst hs
        simpa [Addr.add_flat] using this
      · have := ih (k + 1) (fun i hi => by have := hk (i + 1) (by simp; omega); rw [show k + 1 + i = k + (i + 1) by omega]; simpa using this)
        simpa [Nat.add_assoc] using this
  simpa using this cs 0 (fun i hi => by simpa using hc i (by omega))
theorem reads_slice {t e n k : Nat} {α : Type} {av : α → AV} (ht : P.underlying t = some (.slice e)) (hk : P.cellsOf e = k) (hpos : 0 < k) (hw : ∀ a, (av a).width = k) (hr : ∀ m, m < n → Reads enc P w e m av) :
    Reads enc P w t n (fun l : List α => .slice (l.map av)) := by
  intro cs x h
  rcases DataW.trod_slice ht h with ⟨rfl, _⟩ | ⟨a, len, cap, elems, rest, m, hm, rfl, rfl, _, hl, hcap, hlen, hel, hsp, _⟩
  · exact ⟨[], by simp only [List.map_nil]; unfold VC; exact .inl ⟨⟨_, rfl⟩, rfl⟩⟩
  obtain ⟨hrl, hrest⟩ := hsp rfl
  rw [hk] at hel hrest
  have get : ∀ i, i < cap → ∃ ds y, w.cells? 0 (a.add (i * k)) k = some ds ∧ DataW.trod enc P w 0 (fun _ => true) true m e ds = some y := by
    intro i hi
    have hb : ∃ y, (w.cells? 0 (a.add (i * k)) k).bind (DataW.trod enc P w 0 (fun _ => true) true m e) = some y := by
      by_cases hi' : i < len
      · exact ⟨elems[i]'(by omega), by rw [hel i hi']; simp [show i < elems.length by omega]⟩
      · have := hrest (i - len) (by omega)
        rw [show len + (i - len) = i by omega] at this
        exact ⟨rest[i - len]'(by omega), by rw [this]; simp [show i - len < rest.length by omega]⟩
    obtain ⟨y, hy⟩ := hb
    obtain ⟨ds, h1, h2⟩ := Option.bind_eq_some_iff.1 hy
    exact ⟨ds, y, h1, h2⟩
  by_cases hc0 : cap = 0
  · subst hc0
    obtain rfl : len = 0 := by omega
    exact ⟨[], by simp only [List.map_nil]; unfold VC; exact .inl ⟨⟨_, rfl⟩, rfl⟩⟩
  obtain ⟨ds0, _, hd0, _⟩ := get 0 (by omega)
  have hspot : a.spot = none ∧ a.block < w.heap.size := by
    obtain ⟨_, hl0, hc⟩ := World.cells?_some hd0
    have := hc 0 hpos
    have h0 : ds0[0]? = some (ds0[0]'(by omega)) := by simp [hl0, hpos]
    rw [h0] at this
    have := cell_spot this
    obtain ⟨b, off, sp⟩ := a
    simp only [Nat.zero_mul] at this
    cases sp with
    | none => exact ⟨rfl, by simpa [Addr.add_flat] using this.2.1⟩
    | some s => exact absurd this.1 (by simp [Addr.add])
  obtain ⟨b, off, sp⟩ := a
  simp only at hspot
  obtain ⟨rfl, hbl⟩ := hspot
  have val : ∀ i, i < len → ∃ v : α, VE w.heap none0 b (off + i * k) (av v) := by
    intro i hi
    obtain ⟨ds, y, h1, h2⟩ := get i (by omega)
    obtain ⟨v, hv⟩ := hr m (by omega) ds y h2
    obtain ⟨c1, c2⟩ := cells_at (a := (⟨b, off, none⟩ : Addr).add (i * k)) (by simp [Addr.add_flat]) h1
    exact ⟨v, ds, by simpa [Addr.add_flat] using c1, by rw [hw]; exact c2, hv⟩
  have build : ∀ j, j ≤ len → ∃ l : List α, l.length = j ∧ ∀ (i : Nat) v, l[i]? = some v → VE w.heap none0 b (off + i * k) (av v) := by
    intro j
    induction j with
    | zero => intro _; exact ⟨[], rfl, by simp⟩
    | succ j ih =>
      intro hj
      obtain ⟨l, h1, h2⟩ := ih (by omega)
      obtain ⟨v, hv⟩ := val j (by omega)
      refine ⟨l ++ [v], by simp [h1], fun i u hi => ?_⟩
      rw [List.getElem?_append] at hi
      split at hi
      · exact h2 i u hi
      · rename_i hge
        have : i = j := by
          have := (List.getElem?_eq_some_iff.1 hi).1
          simp at this
          omega
        subst this
        simp [h1] at hi
        subst hi
        exact hv
  obtain ⟨l, h1, h2⟩ := build len (Nat.le_refl _)
  refine ⟨l, ?_⟩
  unfold VC
  refine .inr ⟨b, off, cap, by simp [h1], by simp [h1]; exact hl, hcap, rfl, hbl, even_map hw l, VEs_each (k := k) (by intro e he; simp only [List.mem_map] at he; obtain ⟨v, _, rfl⟩ := he; exact hw v) fun i e he => ?_⟩
  rw [List.getElem?_map] at he
  obtain ⟨v, hv, rfl⟩ := Option.map_eq_some_iff.1 he
  exact h2 i v hv
theorem reads_val {t : TypeId} {α : Type} {av : α → AV} {v : Value} {d : DataW H} {ps : List MemPlace} (hr : ∀ n, Reads enc P w t n av) (hag : ∀ a, (av a).isAgg = vIsAgg v) (h : DataW.Trod enc P w 0 (fun _ => true) true t v d ps) :
    ∃ a : α, VRel w.heap none0 (av a) v := by
  obtain ⟨n, hn⟩ := h
  obtain ⟨a, ha⟩ := hr n _ _ hn
  refine ⟨a, ?_⟩
  have := hag a
  cases hq : av a <;> rw [hq] at ha this <;> first | trivial | exact ⟨this, ha⟩
theorem trodAll_stays (hl : laidOutB P = true) {W W' : World} {sp : Nat → Bool} : ∀ {ts : List TypeId} {vs : List Value} {ds : List (DataW H)} {ps : List MemPlace}, (ts.all fun t => P.readableRec t && decide (t < P.types.size)) = true →
    DataW.TrodAll enc P W 0 (fun _ => true) true ts vs ds ps → (∀ x ∈ ps, W.sameAt W' x) → (∀ x ∈ ps, sp x.block = true) → DataW.TrodAll enc P W' 0 sp true ts vs ds ps
  | [], vs, ds, ps, _, h, _, _ => by
    cases vs <;> cases ds <;> simp [DataW.TrodAll] at h ⊢
    exact h
  | t :: ts, vs, ds, ps, ht, h, h1, h2 => by
    obtain ⟨v, vs', d, ds', p, q, rfl, rfl, rfl, hd, hrest⟩ := trodAll_cons h
    simp only [List.all_cons, Bool.and_eq_true, decide_eq_true_eq] at ht
    refine ⟨p, q, Go.WideElems.Trod_stays hl ht.1.1 ht.1.2 hd (fun x hx => h1 x (by simp [hx])) (fun x hx => h2 x (by simp [hx])), trodAll_stays hl ht.2 hrest (fun x hx => h1 x (by simp [hx])) (fun x hx => h2 x (by simp [hx])), rfl⟩
theorem below_of {W W' : World} {st' : zy7} (T : StepH W.heap none0 W'.heap st') (s : Same W W') : Below W.heap.size W W' :=
  ⟨s.1, s.2.1, s.2.2, T.size, fun k hk => (T.keep k hk rfl).1⟩
theorem law_row {f : Func} {g : FuncId} {s : ChangeSpec} {W : World} {args : Array Value} {ds : List (DataW H)} {before : List MemPlace} {avs : List AV} {tb : TypeId}
    (hl : laidOutB P = true) (hts : (f.params.toList.all fun t => P.readableRec t && decide (t < P.types.size)) = true) (hrt : f.resultTypes = #[tb]) (htb : P.underlying tb = some .bool) (hsv : s.vars = [])
    (hW : DataW.Whole enc P f.params.toList [] false W args.toList ds [] before) (hfn : s.fn H ds = { results := [.lit (.bool true)], args := ds }) (hrel : VRelL W.heap none0 avs args.toList)
    (hc : zq7 P g avs none0 (fun r _ => r = .bool true)) :
    Calls P g args W fun e W' => ∃ v, e = .returned v ∧ s.post enc P f false true false false W args v W' := by
  have hS : SRel W.heap none0 := fun b o h => by cases h
  have := hc.2 W args.toList hS hrel
  simp only [Array.toArray_toList] at this
  refine this.mono ?_
  rintro e W' ⟨v, r, st', rfl, hv, _, T, sm, rfl⟩
  refine ⟨v, rfl, ?_⟩
  have hB := below_of T sm
  rw [hv.bool_of]
  have hW' : DataW.Whole enc P f.params.toList s.vars false W args.toList ds [] before := by rw [hsv]; exact hW
  obtain ⟨p, q, hA, hV, rfl, hz, _⟩ := hW
  obtain ⟨_, rfl⟩ := trodVars_none hV
  have hlt : ∀ x ∈ p, x.block < W.heap.size := fun x hx => hW'.lt x (by simp [hx])
  have hres : ∀ (b : Nat) (sp : Nat → Bool) (hd : Bool), DataW.TrodAll enc P W' b sp hd f.resultTypes.toList ((Value.bool true).resultList f.resultTypes.size) (s.fn H (ds ++ [])).results [] := fun _ _ _ => by
    rw [List.append_nil, hfn, hrt]
    exact trodAll_mk1 (shut_bool htb true)
  have hargs : ∀ sp : Nat → Bool, (∀ x ∈ p, sp x.block = true) → DataW.TrodAll enc P W' 0 sp true f.params.toList args.toList (s.fn H (ds ++ [])).args p := fun sp hsp => by
    rw [List.append_nil, hfn]
    exact trodAll_stays hl hts hA (fun x hx => hB.same (hlt x hx)) hsp
  have hvars : ∀ sp : Nat → Bool, DataW.TrodVars enc P W' sp s.vars (s.fn H (ds ++ [])).vars [] := fun sp => by
    rw [List.append_nil, hfn, hsv]
    exact rfl
  refine ⟨ds, [], p ++ [], [], p, [], hW', hres _ _ _, hargs _ (fun x hx => by simpa using hlt x hx), hvars _, World.keptBut_mono (fun x hx => ⟨hx, by simpa using hx⟩) (hB.frame (· ∈ p ++ [])), fun _ => ?_⟩
  refine ⟨ok_one hrt rfl (okWide_bool_mk htb true), _, _, ([] ++ p) ++ [], ⟨[] ++ p, [], trodAll_append (hargs _ (fun _ _ => rfl)) (hres _ _ _), hvars _, rfl, ?_, ?_⟩, ?_⟩
  · intro b off hp
    have hp' : MemPlace.cell b off ∈ p := by simpa using hp
    rw [hB.frozen (p := ⟨b, off, none⟩) (hlt _ hp')]
    exact hz b off (by simpa using hp')
  · intro ha; cases ha
  · intro x hx _
    simpa using hx
end
end Go.AW


namespace Go.AW
open Go.Proofs.Try
set_option maxRecDepth 100000
section
variable {H : Type} {enc : TypeId × Value → H} {w : World}
theorem cellsOf_uint8 : prog.cellsOf 5 = 1 := by kernel_rfl
theorem reads_byte (n : Nat) : Reads enc prog w 5 n byteAv := by
  intro cs x h
  obtain ⟨k, rfl, _, hw⟩ := DataW.trod_int underlying5 h
  simp only [Lit.wf, IntKind.min, IntKind.max, IntKind.signed, IntKind.bits, Bool.and_eq_true, decide_eq_true_eq] at hw
  refine ⟨⟨k.toNat, ?_⟩, ?_⟩
  · simp at hw; omega
  · have : (((k.toNat : Nat)) : Int) = k := by simp at hw; omega
    simp only [byteAv, this, VC]
theorem reads_bytes (n : Nat) : Reads enc prog w 22 n (fun l : List Bt => .slice (l.map byteAv)) :=
  reads_slice underlying22 cellsOf_uint8 (by omega) byteAv_width fun m _ => reads_byte m
end
end Go.AW


namespace Go.AW
open Go.Proofs.Try
set_option maxRecDepth 100000
section
variable {H : Type} {enc : TypeId × Value → H} {w : World}
theorem wide_slice {r : Reach} {b0 : Nat} {t e : TypeId} {v : Value} (ht : prog.underlying t = some (.slice e)) (h : Value.okWide prog w r b0 t v) : vIsAgg v = false := by
  cases v <;> first | rfl | (simp [Value.okWide, ht, Cell.okWide, Cell.ok] at h)
end
end Go.AW
