import Derived.Test.YtaifeijnedoboaaCbFinn

namespace Go.AW
open Go.Proofs.Try
set_option linter.unusedSimpArgs false
set_option maxRecDepth 100000
abbrev tf_D2_32 := And.intro tI_3 (And.intro zI_3 (And.intro underlying3 (And.intro tI_6 (And.intro zI_6 (And.intro underlying6 (And.intro tI_7 (And.intro zI_7 (And.intro fI_7_0 (And.intro fI_7_1 (And.intro fI_7_2 (And.intro fI_7_3 (And.intro bI_7 (And.intro tI_8 (And.intro zI_8 (And.intro fI_8_0 (And.intro fI_8_1 (And.intro fI_8_2 (And.intro fI_8_3 (And.intro bI_8 (And.intro tI_9 (And.intro zI_9 (And.intro underlying9 (And.intro tI_12 (And.intro zI_12 (And.intro underlying12 (And.intro tI_18 (And.intro zI_18 (And.intro fI_18_0 (And.intro bI_18 (And.intro tI_34 (And.intro zI_34 (And.intro tI_61 (And.intro zI_61 (And.intro eI_61 (And.intro eB_61 (And.intro eZ_61 underlying61))))))))))))))))))))))))))))))))))))
theorem c_num (l : List Int) (h1 : 1 ≤ l.length) (h2 : l.length ≤ 1048576) (bs : List Bt) (c p : Nat) (hp : p ≤ 1099511627776) (st : zy7) (h : RdAt st c bs p) :
    zq7 prog 32 [.ptr c 0, .slice (l.map iv)] st (fun r st' => ∃ x ∈ l, r = .int .i64 x ∧ st' = st.upd c (rdC bs (p + 1))) := by
  refine zw6 [1000000] func32 ntmps32 rfl rfl (by kernel_rfl) (by decide +kernel) (by show 2 ≤ _; decide +kernel) ?_
  intro _
  simp -implicitDefEqProofs only [List.length_map, evE, ↓evZ2, ↓evZ3, ↓Int.cast_ofNat_Int, implies_true, zy2, aFn, List.contains, List.elem, zq3, zy1, zq2, sub, zx3, zw2, zw3, zy3, gd, zq1, zw0, zq0, zx0, zx2, zx1, zy0, zw1, List.range', ↓reduceIte, reduceCtorEq, Nat.reduceEqDiff, Nat.reduceAdd, Nat.reduceLeDiff, Nat.reduceMul, Nat.reduceLT, Nat.reduceBEq, Int.reduceEq, tf_D2_32]
  refine (c_pick bs c p hp l.length h1 h2 st h).mono ?_
  rintro _ _ ⟨k, hk, rfl, rfl⟩
  obtain ⟨x, hx⟩ : ∃ x, l[k]? = some x := ⟨_, List.getElem?_eq_getElem hk⟩
  have hat := ev_at (av := iv) eI_61 hx rfl
  simp -implicitDefEqProofs only [hat, List.length_map, evE, ↓evZ2, ↓evZ3, ↓Int.cast_ofNat_Int, implies_true, zy2, aFn, List.contains, List.elem, zq3, zy1, zq2, sub, zx3, zw2, zw3, zy3, gd, zq1, zw0, zq0, zx0, zx2, zx1, zy0, zw1, List.range', ↓reduceIte, reduceCtorEq, Nat.reduceEqDiff, Nat.reduceAdd, Nat.reduceLeDiff, Nat.reduceMul, Nat.reduceLT, Nat.reduceBEq, Int.reduceEq, tf_D2_32]
  exact ⟨x, List.mem_of_getElem? hx, rfl⟩
theorem c_numF (l : List Int) (h1 : 1 ≤ l.length) (h2 : l.length ≤ 1048576) (bs : List Bt) (c p : Nat) (hp : p ≤ 1099511627776) (st : zy7) (h : RdAt st c bs p) :
    zq7 prog 32 [.ptr c 0, .fslice (l.map iv)] st (fun r st' => ∃ x ∈ l, r = .int .i64 x ∧ st' = st.upd c (rdC bs (p + 1))) :=
  zq7.softArgs (by simp only [softL, AV.soft]; exact c_num l h1 h2 bs c p hp st h)
abbrev tf_D2_33 := And.intro tI_3 (And.intro zI_3 (And.intro underlying3 (And.intro tI_6 (And.intro zI_6 (And.intro underlying6 (And.intro tI_7 (And.intro zI_7 (And.intro fI_7_0 (And.intro fI_7_1 (And.intro fI_7_2 (And.intro fI_7_3 (And.intro bI_7 (And.intro tI_8 (And.intro zI_8 (And.intro fI_8_0 (And.intro fI_8_1 (And.intro fI_8_2 (And.intro fI_8_3 (And.intro bI_8 (And.intro tI_9 (And.intro zI_9 (And.intro underlying9 (And.intro tI_12 (And.intro zI_12 (And.intro underlying12 (And.intro tI_18 (And.intro zI_18 (And.intro fI_18_0 (And.intro bI_18 (And.intro tI_34 (And.intro zI_34 (And.intro tI_63 (And.intro zI_63 (And.intro eI_63 (And.intro eB_63 (And.intro eZ_63 underlying63))))))))))))))))))))))))))))))))))))
theorem c_of (l : List ByteArray) (h1 : 1 ≤ l.length) (h2 : l.length ≤ 1048576) (bs : List Bt) (c p : Nat) (hp : p ≤ 1099511627776) (st : zy7) (h : RdAt st c bs p) :
    zq7 prog 33 [.ptr c 0, .slice (l.map AV.str)] st (fun r st' => ∃ x ∈ l, r = .str x ∧ st' = st.upd c (rdC bs (p + 1))) := by
  refine zw6 [1000000] func33 ntmps33 rfl rfl (by kernel_rfl) (by decide +kernel) (by show 2 ≤ _; decide +kernel) ?_
  intro _
  simp -implicitDefEqProofs only [List.length_map, evE, ↓evZ2, ↓evZ3, ↓Int.cast_ofNat_Int, implies_true, zy2, aFn, List.contains, List.elem, zq3, zy1, zq2, sub, zx3, zw2, zw3, zy3, gd, zq1, zw0, zq0, zx0, zx2, zx1, zy0, zw1, List.range', ↓reduceIte, reduceCtorEq, Nat.reduceEqDiff, Nat.reduceAdd, Nat.reduceLeDiff, Nat.reduceMul, Nat.reduceLT, Nat.reduceBEq, Int.reduceEq, tf_D2_33]
  refine (c_pick bs c p hp l.length h1 h2 st h).mono ?_
  rintro _ _ ⟨k, hk, rfl, rfl⟩
  obtain ⟨x, hx⟩ : ∃ x, l[k]? = some x := ⟨_, List.getElem?_eq_getElem hk⟩
  have hat := ev_at (av := AV.str) eI_63 hx rfl
  simp -implicitDefEqProofs only [hat, List.length_map, evE, ↓evZ2, ↓evZ3, ↓Int.cast_ofNat_Int, implies_true, zy2, aFn, List.contains, List.elem, zq3, zy1, zq2, sub, zx3, zw2, zw3, zy3, gd, zq1, zw0, zq0, zx0, zx2, zx1, zy0, zw1, List.range', ↓reduceIte, reduceCtorEq, Nat.reduceEqDiff, Nat.reduceAdd, Nat.reduceLeDiff, Nat.reduceMul, Nat.reduceLT, Nat.reduceBEq, Int.reduceEq, tf_D2_33]
  exact ⟨x, List.mem_of_getElem? hx, rfl⟩
theorem c_ofF (l : List ByteArray) (h1 : 1 ≤ l.length) (h2 : l.length ≤ 1048576) (bs : List Bt) (c p : Nat) (hp : p ≤ 1099511627776) (st : zy7) (h : RdAt st c bs p) :
    zq7 prog 33 [.ptr c 0, .fslice (l.map AV.str)] st (fun r st' => ∃ x ∈ l, r = .str x ∧ st' = st.upd c (rdC bs (p + 1))) :=
  zq7.softArgs (by simp only [softL, AV.soft]; exact c_of l h1 h2 bs c p hp st h)
abbrev tf_D2_9 := And.intro tI_2 (And.intro zI_2 (And.intro underlying2 (And.intro tI_3 (And.intro zI_3 (And.intro underlying3 (And.intro tI_4 (And.intro zI_4 (And.intro underlying4 (And.intro tI_10 (And.intro zI_10 (And.intro underlying10 (And.intro tI_11 (And.intro zI_11 (And.intro underlying11 (And.intro tI_18 (And.intro zI_18 (And.intro fI_18_0 (And.intro bI_18 (And.intro tI_22 (And.intro zI_22 (And.intro eI_22 (And.intro eB_22 (And.intro eZ_22 (And.intro underlying22 (And.intro tI_34 (And.intro zI_34 (And.intro tI_58 (And.intro zI_58 (And.intro fI_58_0 (And.intro fI_58_1 bI_58))))))))))))))))))))))))))))))
theorem c_l18Open (bs : List Bt) (st : zy7) : zq7 prog 9 [.slice (bs.map byteAv)] st (fun r st' => ∃ c bs', r = .ptr c 0 ∧ st c = none ∧ st' = st.upd c (rdC bs' 0)) := by
  refine zw6 [1000000, 10] func9 ntmps9 rfl rfl (by kernel_rfl) (by decide +kernel) (by show 1 ≤ _; decide +kernel) ?_
  simp only [fitsL, AV.fits, and_true, List.length_map]
  intro ⟨hl, _⟩
  have hs : bs.length > 2000 → ∀ φ, aSlice prog φ 22 (.slice (bs.map byteAv)) none (some (.const (.int .i64 2000))) none = some (.slice ((bs.take 2000).map byteAv)) := fun h φ => by
    have h2 : ((0 : Int) ≤ 2000 ∧ (2000 : Int) ≤ (bs.map byteAv).length) := ⟨by omega, by rw [List.length_map]; omega⟩
    have h3 : aBound φ (some (.const (.int .i64 2000))) (bs.map byteAv).length (bs.map byteAv).length = some 2000 := by
      show (if ((0 : Int) ≤ 2000 ∧ (2000 : Int) ≤ (bs.map byteAv).length) then some (Int.toNat 2000) else none) = some 2000
      exact if_pos h2
    unfold aSlice aSlice0
    rw [if_neg (by simp [isF0])]
    simp only [eI_22]
    have h4 : aBound φ none (bs.map byteAv).length (bs.map byteAv).length = some (bs.map byteAv).length := rfl
    rw [h4]
    simp only [h3]
    have h5 : aBound φ none 0 2000 = some 0 := rfl
    rw [h5]
    simp
  simp -implicitDefEqProofs only [List.length_map, evE, ↓evZ2, ↓evZ3, ↓Int.cast_ofNat_Int, implies_true, zy2, aFn, List.contains, List.elem, zq3, zy1, zq2, sub, zx3, zw2, zw3, zy3, gd, zq1, zw0, zq0, zx0, zx2, zx1, zy0, zw1, List.range', ↓reduceIte, reduceCtorEq, Nat.reduceEqDiff, Nat.reduceAdd, Nat.reduceLeDiff, Nat.reduceMul, Nat.reduceLT, Nat.reduceBEq, Int.reduceEq, tf_D2_9]
  refine zq4 (fun h => ?_) (fun h => ?_)
  · simp only [decide_eq_true_eq] at h
    have hs' := hs (by omega)
    simp -implicitDefEqProofs only [hs', List.length_map, evE, ↓evZ2, ↓evZ3, ↓Int.cast_ofNat_Int, implies_true, zy2, aFn, List.contains, List.elem, zq3, zy1, zq2, sub, zx3, zw2, zw3, zy3, gd, zq1, zw0, zq0, zx0, zx2, zx1, zy0, zw1, List.range', ↓reduceIte, reduceCtorEq, Nat.reduceEqDiff, Nat.reduceAdd, Nat.reduceLeDiff, Nat.reduceMul, Nat.reduceLT, Nat.reduceBEq, Int.reduceEq, tf_D2_9]
    intro b hb
    exact ⟨b, bs.take 2000, rfl, hb, by simp [rdC]⟩
  · simp -implicitDefEqProofs only [List.length_map, evE, ↓evZ2, ↓evZ3, ↓Int.cast_ofNat_Int, implies_true, zy2, aFn, List.contains, List.elem, zq3, zy1, zq2, sub, zx3, zw2, zw3, zy3, gd, zq1, zw0, zq0, zx0, zx2, zx1, zy0, zw1, List.range', ↓reduceIte, reduceCtorEq, Nat.reduceEqDiff, Nat.reduceAdd, Nat.reduceLeDiff, Nat.reduceMul, Nat.reduceLT, Nat.reduceBEq, Int.reduceEq, tf_D2_9]
    intro b hb
    exact ⟨b, bs, rfl, hb, by simp [rdC]⟩
abbrev tf_D2_63 := And.intro tI_2 (And.intro zI_2 (And.intro underlying2 (And.intro tI_3 (And.intro zI_3 (And.intro underlying3 (And.intro tI_5 (And.intro zI_5 (And.intro underlying5 (And.intro tI_25 (And.intro zI_25 (And.intro fI_25_0 (And.intro fI_25_1 (And.intro fI_25_2 (And.intro fI_25_3 bI_25))))))))))))))
theorem c_l1Var (n : Int) (st : zy7) : zq7 prog 63 [.int .i64 n] st (fun r st' => r = (vr n).av ∧ st' = st) := by
  refine zq7.done ?_
  refine zw6 [1000000] func63 ntmps63 rfl rfl (by kernel_rfl) (by decide +kernel) (by show 1 ≤ _; decide +kernel) ?_
  intro _
  simp -implicitDefEqProofs only [zy4, evE, ↓evZ2, ↓evZ3, ↓Int.cast_ofNat_Int, implies_true, zy2, aFn, List.contains, List.elem, zq3, zy1, zq2, sub, zx3, zw2, zw3, zy3, gd, zq1, zw0, zq0, zx0, zx2, zx1, zy0, zw1, List.range', ↓reduceIte, reduceCtorEq, Nat.reduceEqDiff, Nat.reduceAdd, Nat.reduceLeDiff, Nat.reduceMul, Nat.reduceLT, Nat.reduceBEq, Int.reduceEq, tf_D2_63]
  intro b hb
  exact ⟨by simp only [vr, Tm.av_mk, soft_agg, soft_tup, soft_int, soft_bool, soft_str, soft_slice, soft_fslice, soft_ptr, soft_pptr, soft_map, soft_mslice, Tm.soft, List.map_cons, List.map_nil], (Drops.refl _).upd hb⟩
abbrev tf_D2_34 := And.intro tI_2 (And.intro zI_2 (And.intro underlying2 (And.intro tI_3 (And.intro zI_3 (And.intro underlying3 (And.intro tI_5 (And.intro zI_5 (And.intro underlying5 (And.intro tI_25 (And.intro zI_25 (And.intro fI_25_0 (And.intro fI_25_1 (And.intro fI_25_2 (And.intro fI_25_3 bI_25))))))))))))))
theorem c_l1Int (n : Int) (st : zy7) : zq7 prog 34 [.int .i64 n] st (fun r st' => r = (Tm.mk 2 n ⟨#[]⟩ []).av ∧ st' = st) := by
  refine zq7.done ?_
  refine zw6 [1000000] func34 ntmps34 rfl rfl (by kernel_rfl) (by decide +kernel) (by show 1 ≤ _; decide +kernel) ?_
  intro _
  simp -implicitDefEqProofs only [zy4, evE, ↓evZ2, ↓evZ3, ↓Int.cast_ofNat_Int, implies_true, zy2, aFn, List.contains, List.elem, zq3, zy1, zq2, sub, zx3, zw2, zw3, zy3, gd, zq1, zw0, zq0, zx0, zx2, zx1, zy0, zw1, List.range', ↓reduceIte, reduceCtorEq, Nat.reduceEqDiff, Nat.reduceAdd, Nat.reduceLeDiff, Nat.reduceMul, Nat.reduceLT, Nat.reduceBEq, Int.reduceEq, tf_D2_34]
  intro b hb
  exact ⟨by simp only [vr, Tm.av_mk, soft_agg, soft_tup, soft_int, soft_bool, soft_str, soft_slice, soft_fslice, soft_ptr, soft_pptr, soft_map, soft_mslice, Tm.soft, List.map_cons, List.map_nil], (Drops.refl _).upd hb⟩
abbrev tf_D2_35 := And.intro tI_2 (And.intro zI_2 (And.intro underlying2 (And.intro tI_3 (And.intro zI_3 (And.intro underlying3 (And.intro tI_4 (And.intro zI_4 (And.intro underlying4 (And.intro tI_6 (And.intro zI_6 (And.intro underlying6 (And.intro tI_7 (And.intro zI_7 (And.intro fI_7_0 (And.intro fI_7_1 (And.intro fI_7_2 (And.intro fI_7_3 (And.intro bI_7 (And.intro tI_8 (And.intro zI_8 (And.intro fI_8_0 (And.intro fI_8_1 (And.intro fI_8_2 (And.intro fI_8_3 (And.intro bI_8 (And.intro tI_9 (And.intro zI_9 (And.intro underlying9 (And.intro tI_10 (And.intro zI_10 (And.intro underlying10 (And.intro tI_23 (And.intro zI_23 (And.intro eI_23 (And.intro eB_23 (And.intro eZ_23 (And.intro underlying23 (And.intro tI_25 (And.intro zI_25 (And.intro fI_25_0 (And.intro fI_25_1 (And.intro fI_25_2 (And.intro fI_25_3 bI_25)))))))))))))))))))))))))))))))))))))))))))
theorem c_l1Struct (s : ByteArray) (l : List Tm) (hl : l.length ≤ 1048576) (st : zy7) : zq7 prog 35 [.str s, .slice (l.map Tm.av)] st (fun r st' => r = (Tm.mk 3 0 s l).av ∧ st' = st) := by
  refine zq7.drop2 (zq7.fin ?_)
  refine zw6 [1000000] func35 ntmps35 rfl rfl (by kernel_rfl) (by decide +kernel) (by show 2 ≤ _; decide +kernel) ?_
  intro _
  simp -implicitDefEqProofs only [zy4, evE, ↓evZ2, ↓evZ3, ↓Int.cast_ofNat_Int, implies_true, zy2, aFn, List.contains, List.elem, zq3, zy1, zq2, sub, zx3, zw2, zw3, zy3, gd, zq1, zw0, zq0, zx0, zx2, zx1, zy0, zw1, List.range', ↓reduceIte, reduceCtorEq, Nat.reduceEqDiff, Nat.reduceAdd, Nat.reduceLeDiff, Nat.reduceMul, Nat.reduceLT, Nat.reduceBEq, Int.reduceEq, tf_D2_35]
  intro b hb
  change aAppend prog 23 (accS (st.upd b (.cells [.int .i64 0, .int .i64 0, .str ⟨#[]⟩, .fslice []])) 0 []) (accV 4 0 []) (.slice (l.map Tm.av)) _
  refine acc_append eI_23 eB_23 eZ_23 rfl rfl (by intro e he; simp only [List.mem_map] at he; obtain ⟨t, _, rfl⟩ := he; exact ⟨Tm.av_width _, Tm.av_store _⟩) (by simp) (fun h => absurd rfl h) (by simp only [List.length_nil, List.length_map]; omega) (by simp only [List.length_nil, List.length_map]; omega) (fun b' hb' => ?_)
  rw [List.nil_append] at hb' ⊢
  have hne : l.map Tm.av ≠ [] → b ≠ b' := fun h e => by have := hb' h; rw [← e, zy7.upd_same] at this; cases this
  have h1 : accS (st.upd b (.cells [.int .i64 0, .int .i64 0, .str ⟨#[]⟩, .fslice []])) b' (l.map Tm.av) b = some (.cells [.int .i64 0, .int .i64 0, .str ⟨#[]⟩, .fslice []]) := by
    by_cases h : l.map Tm.av = []
    · rw [h, accS_nil, zy7.upd_same]
    · rw [accS_ne (hne h), zy7.upd_same]
  simp -implicitDefEqProofs only [zy4, h1, accV_cells, accV_store, accV_agg, accV_width, accV_junk, evE, ↓evZ2, ↓evZ3, ↓Int.cast_ofNat_Int, implies_true, zy2, aFn, List.contains, List.elem, zq3, zy1, zq2, sub, zx3, zw2, zw3, zy3, gd, zq1, zw0, zq0, zx0, zx2, zx1, zy0, zw1, List.range', ↓reduceIte, reduceCtorEq, Nat.reduceEqDiff, Nat.reduceAdd, Nat.reduceLeDiff, Nat.reduceMul, Nat.reduceLT, Nat.reduceBEq, Int.reduceEq, tf_D2_35]
  rw [accS_upd hne, zy7.upd_upd]
  exact ⟨b', l.map Tm.av, st.upd b _, rfl, fun h => by rw [zy7.upd_ne _ _ (Ne.symm (hne h))]; have := hb' h; rwa [zy7.upd_ne _ _ (Ne.symm (hne h))] at this, tm_junk _, ⟨4, tm_widths _⟩, by simp only [Tm.av_mk, fin_agg, fin_tup, fin_int, fin_bool, fin_str, fin_slice, fin_fslice, fin_pptr, fin_ptr, fin_func, fin_map, fin_undef, fin_accV, tm_fin, List.map_cons, List.map_nil], (Drops.refl _).upd hb⟩
theorem c_l1StructF (s : ByteArray) (l : List Tm) (hl : l.length ≤ 1048576) (st : zy7) : zq7 prog 35 [.str s, .fslice (l.map Tm.av)] st (fun r st' => r = (Tm.mk 3 0 s l).av ∧ st' = st) :=
  zq7.softArgs (by simp only [softL, AV.soft]; exact c_l1Struct s l hl st)
theorem c_l1Struct0 (s : ByteArray) (st : zy7) : zq7 prog 35 [.str s, .fslice []] st (fun r st' => r = .agg [.int .i64 3, .int .i64 0, .str s, .fslice []] ∧ st' = st) := by
  refine zq7.drop ?_
  refine zw6 [1000000] func35 ntmps35 rfl rfl (by kernel_rfl) (by decide +kernel) (by show 2 ≤ _; decide +kernel) ?_
  intro _
  simp -implicitDefEqProofs only [zy4, evE, ↓evZ2, ↓evZ3, ↓Int.cast_ofNat_Int, implies_true, zy2, aFn, List.contains, List.elem, zq3, zy1, zq2, sub, zx3, zw2, zw3, zy3, gd, zq1, zw0, zq0, zx0, zx2, zx1, zy0, zw1, List.range', ↓reduceIte, reduceCtorEq, Nat.reduceEqDiff, Nat.reduceAdd, Nat.reduceLeDiff, Nat.reduceMul, Nat.reduceLT, Nat.reduceBEq, Int.reduceEq, tf_D2_35]
  intro b hb
  change aAppend prog 23 (accS (st.upd b (.cells [.int .i64 0, .int .i64 0, .str ⟨#[]⟩, .fslice []])) 0 []) (accV 4 0 []) (.fslice ([] : List AV)) _
  refine acc_append eI_23 eB_23 eZ_23 rfl rfl (by simp [appFit]) (by simp) (fun h => absurd rfl h) (by simp) (by simp) (fun b' hb' => ?_)
  simp only [List.append_nil, accV_nil, accS_nil]
  simp -implicitDefEqProofs only [zy4, evE, ↓evZ2, ↓evZ3, ↓Int.cast_ofNat_Int, implies_true, zy2, aFn, List.contains, List.elem, zq3, zy1, zq2, sub, zx3, zw2, zw3, zy3, gd, zq1, zw0, zq0, zx0, zx2, zx1, zy0, zw1, List.range', ↓reduceIte, reduceCtorEq, Nat.reduceEqDiff, Nat.reduceAdd, Nat.reduceLeDiff, Nat.reduceMul, Nat.reduceLT, Nat.reduceBEq, Int.reduceEq, tf_D2_35]
  exact (Drops.refl _).upd hb
abbrev Dn (t : Tm) : Prop := t.cv = true ∧ t.small = true
theorem dn_vr (n : Int) : Dn (vr n) := by
  refine ⟨Tm.cv_mk.2 ⟨fun _ => ⟨rfl, rfl⟩, fun x hx => by cases hx⟩, ?_⟩
  simp [vr, Tm.small, tmsSmall]
theorem dn_mk {k n : Int} {s : ByteArray} {ts : List Tm} (hk : k ≠ 1) (hl : ts.length ≤ 1048576) (h : ∀ x ∈ ts, Dn x) : Dn (.mk k n s ts) := by
  refine ⟨Tm.cv_mk.2 ⟨fun h => absurd h hk, fun x hx => (h x hx).1⟩, ?_⟩
  simp only [Tm.small, tmsSmall_all, Bool.and_eq_true, decide_eq_true_eq, List.all_eq_true]
  exact ⟨hl, fun x hx => (h x hx).2⟩
def Dr (bs : List Bt) (c p m : Nat) (st : zy7) (Q : AV → Prop) (r : AV) (st' : zy7) : Prop := ∃ p', p ≤ p' ∧ p' ≤ p + m ∧ st' = st.upd c (rdC bs p') ∧ Q r
def DrT (r : AV) : Prop := ∃ t : Tm, Dn t ∧ r = t.av
theorem RdAt.upd {st : zy7} {c p : Nat} {bs : List Bt} {b : Nat} {o : AO} (h : RdAt st c bs p) (hb : b ≠ c) : RdAt (st.upd b o) c bs p := by unfold RdAt; rw [zy7.upd_ne _ _ (Ne.symm hb)]; exact h
theorem RdAt.new {st : zy7} {c p : Nat} {bs : List Bt} : RdAt (st.upd c (rdC bs p)) c bs p := zy7.upd_same _ _ _
theorem RdAt.ne {st : zy7} {c p : Nat} {bs : List Bt} {b : Nat} (h : RdAt st c bs p) (hb : st b = none) : b ≠ c := by rintro rfl; rw [RdAt, hb] at h; cases h
abbrev tf_D2_36 := And.intro tI_2 (And.intro zI_2 (And.intro underlying2 (And.intro tI_3 (And.intro zI_3 (And.intro underlying3 (And.intro tI_4 (And.intro zI_4 (And.intro underlying4 (And.intro tI_5 (And.intro zI_5 (And.intro underlying5 (And.intro tI_6 (And.intro zI_6 (And.intro underlying6 (And.intro tI_7 (And.intro zI_7 (And.intro fI_7_0 (And.intro fI_7_1 (And.intro fI_7_2 (And.intro fI_7_3 (And.intro bI_7 (And.intro tI_8 (And.intro zI_8 (And.intro fI_8_0 (And.intro fI_8_1 (And.intro fI_8_2 (And.intro fI_8_3 (And.intro bI_8 (And.intro tI_9 (And.intro zI_9 (And.intro underlying9 (And.intro tI_10 (And.intro zI_10 (And.intro underlying10 (And.intro tI_11 (And.intro zI_11 (And.intro underlying11 (And.intro tI_12 (And.intro zI_12 (And.intro underlying12 (And.intro tI_13 (And.intro zI_13 (And.intro fI_13_0 (And.intro fI_13_1 (And.intro bI_13 (And.intro tI_14 (And.intro zI_14 (And.intro fI_14_0 (And.intro fI_14_1 (And.intro bI_14 (And.intro tI_15 (And.intro zI_15 (And.intro tI_18 (And.intro zI_18 (And.intro fI_18_0 (And.intro bI_18 (And.intro tI_19 (And.intro zI_19 (And.intro fI_19_0 (And.intro bI_19 (And.intro tI_23 (And.intro zI_23 (And.intro eI_23 (And.intro eB_23 (And.intro eZ_23 (And.intro underlying23 (And.intro tI_24 (And.intro zI_24 (And.intro fI_24_0 (And.intro fI_24_1 (And.intro fI_24_2 (And.intro fI_24_3 (And.intro bI_24 (And.intro tI_25 (And.intro zI_25 (And.intro fI_25_0 (And.intro fI_25_1 (And.intro fI_25_2 (And.intro fI_25_3 (And.intro bI_25 (And.intro tI_27 (And.intro zI_27 (And.intro eI_27 (And.intro eB_27 (And.intro eZ_27 (And.intro underlying27 (And.intro tI_34 (And.intro zI_34 (And.intro tI_48 (And.intro zI_48 (And.intro fI_48_0 (And.intro fI_48_1 (And.intro bI_48 (And.intro tI_49 (And.intro zI_49 (And.intro fI_49_0 (And.intro fI_49_1 (And.intro bI_49 (And.intro tI_57 (And.intro zI_57 (And.intro fI_57_0 (And.intro fI_57_1 (And.intro bI_57 (And.intro tI_61 (And.intro zI_61 (And.intro eI_61 (And.intro eB_61 (And.intro eZ_61 (And.intro underlying61 (And.intro tI_63 (And.intro zI_63 (And.intro eI_63 (And.intro eB_63 (And.intro eZ_63 (And.intro underlying63 (And.intro tI_97 (And.intro zI_97 (And.intro underlying97 (And.intro tI_102 (And.intro zI_102 (And.intro fI_102_0 (And.intro fI_102_1 (And.intro fI_102_2 (And.intro fI_102_3 (And.intro bI_102 (And.intro tI_103 (And.intro zI_103 (And.intro fI_103_0 (And.intro fI_103_1 (And.intro fI_103_2 (And.intro fI_103_3 (And.intro bI_103 (And.intro tI_105 (And.intro zI_105 (And.intro bI_105 (And.intro tI_108 (And.intro zI_108 (And.intro underlying108 (And.intro tI_110 (And.intro zI_110 (And.intro underlying110 (And.intro tI_115 (And.intro zI_115 (And.intro fI_115_0 (And.intro fI_115_1 (And.intro fI_115_2 (And.intro fI_115_3 (And.intro fI_115_4 (And.intro fI_115_5 (And.intro fI_115_6 (And.intro fI_115_7 (And.intro fI_115_8 (And.intro fI_115_9 (And.intro fI_115_10 bI_115))))))))))))))))))))))))))))))))))))))))))))))))))))))))))))))))))))))))))))))))))))))))))))))))))))))))))))))))))))))))))))))))))))))))))))))))))))))))))
theorem c_l1Draw (bs : List Bt) (c : Nat) : ∀ (d p : Nat) (st : zy7), d ≤ 10 → p + 4 ^ (d + 2) ≤ 1099511627776 → RdAt st c bs p → zq7 prog 36 [.ptr c 0, .int .i64 (d : Int)] st (Dr bs c p (4 ^ (d + 2)) st DrT)
  | d, p, st, hd, hp, hR => by
    have IH := fun (d' : Nat) (hlt : d' < d) p st => c_l1Draw bs c d' p st
    refine zq7.dropS (zq7.fin ?_)
    refine zw6 [1000000, 5] func36 ntmps36 rfl rfl (by kernel_rfl) (by decide +kernel) (by show 2 ≤ _; decide +kernel) ?_
    intro _
    simp -implicitDefEqProofs only [zy4, evE, ↓evZ2, ↓evZ3, ↓Int.cast_ofNat_Int, implies_true, zy2, aFn, List.contains, List.elem, zq3, zy1, zq2, sub, zx3, zw2, zw3, zy3, gd, zq1, zw0, zq0, zx0, zx2, zx1, zy0, zw1, List.range', ↓reduceIte, reduceCtorEq, Nat.reduceEqDiff, Nat.reduceAdd, Nat.reduceLeDiff, Nat.reduceMul, Nat.reduceLT, Nat.reduceBEq, Int.reduceEq, tf_D2_36]
    intro b4 h4
    have h4c := hR.ne h4
    have hR' := fun o => hR.upd (o := o) h4c
    have hpow : 64 ≤ 4 ^ (d + 2) ∨ d = 0 := by
      cases d with
      | zero => exact .inr rfl
      | succ d => left; have : 4 ^ (d + 1 + 2) = 64 * 4 ^ d := by rw [show d + 1 + 2 = d + 3 by omega, Nat.pow_add]; omega
                  have := Nat.one_le_two_pow (n := d); have : 1 ≤ 4 ^ d := Nat.one_le_pow _ _ (by omega); omega
    have hpow16 : 16 ≤ 4 ^ (d + 2) := by rcases hpow with h | rfl <;> omega
    have hend : ∀ (o o' : AO) (q : Nat) (t : Tm), p ≤ q → q ≤ p + 4 ^ (d + 2) → Dn t → ∃ b l s0, ((st.upd b4 o).upd c (rdC bs q)).upd b4 o' = accS s0 b l ∧ (l ≠ [] → s0 b = none) ∧ (∀ e ∈ l, e.isJunk = false) ∧ Even l ∧ ∃ s2, Drops s0 s2 ∧ Dr bs c p (4 ^ (d + 2)) st DrT (AV.fin b l t.av) s2 := fun o o' q t h1 h2 h3 => by
      refine ⟨0, [], _, rfl, by simp, by simp, ⟨4, by simp⟩, st.upd c (rdC bs q), ?_, q, h1, h2, rfl, t, h3, Tm.fin0 t 0⟩
      intro x
      by_cases e4 : x = b4 <;> by_cases ec : x = c <;> simp_all [zy7.upd]
    refine zx4 (fun h => ?_) (fun h => ?_)
    case refine_2 =>
      simp -implicitDefEqProofs only [h, zy4, evE, ↓evZ2, ↓evZ3, ↓Int.cast_ofNat_Int, implies_true, zy2, aFn, List.contains, List.elem, zq3, zy1, zq2, sub, zx3, zw2, zw3, zy3, gd, zq1, zw0, zq0, zx0, zx2, zx1, zy0, zw1, List.range', ↓reduceIte, reduceCtorEq, Nat.reduceEqDiff, Nat.reduceAdd, Nat.reduceLeDiff, Nat.reduceMul, Nat.reduceLT, Nat.reduceBEq, Int.reduceEq, tf_D2_36]
      have hRq := hR' (.cells [.int .i64 0, .int .i64 0, .str ⟨#[]⟩, .fslice []])
      have hq : p + 1 ≤ 1099511627776 := by omega
      have := h4c.symm
      refine (c_pick bs c (p) (by omega) 4 (by omega) (by omega) _ hRq).mono ?_
      rintro _ _ ⟨k, hk, rfl, rfl⟩
      try rw [zy7.upd_upd]
      simp -implicitDefEqProofs only [zy4, h4c, h4c.symm, evE, ↓evZ2, ↓evZ3, ↓Int.cast_ofNat_Int, implies_true, zy2, aFn, List.contains, List.elem, zq3, zy1, zq2, sub, zx3, zw2, zw3, zy3, gd, zq1, zw0, zq0, zx0, zx2, zx1, zy0, zw1, List.range', ↓reduceIte, reduceCtorEq, Nat.reduceEqDiff, Nat.reduceAdd, Nat.reduceLeDiff, Nat.reduceMul, Nat.reduceLT, Nat.reduceBEq, Int.reduceEq, tf_D2_36]
      refine zq4 (fun h1 => ?_) (fun h1 => ?_)
      · simp -implicitDefEqProofs only [zy4, h4c, h4c.symm, evE, ↓evZ2, ↓evZ3, ↓Int.cast_ofNat_Int, implies_true, zy2, aFn, List.contains, List.elem, zq3, zy1, zq2, sub, zx3, zw2, zw3, zy3, gd, zq1, zw0, zq0, zx0, zx2, zx1, zy0, zw1, List.range', ↓reduceIte, reduceCtorEq, Nat.reduceEqDiff, Nat.reduceAdd, Nat.reduceLeDiff, Nat.reduceMul, Nat.reduceLT, Nat.reduceBEq, Int.reduceEq, tf_D2_36]
        refine (c_pick bs c (p + 1) (by omega) 4 (by omega) (by omega) _ RdAt.new).mono ?_
        rintro _ _ ⟨k2, hk2, rfl, rfl⟩
        rw [zy7.upd_upd]
        simp -implicitDefEqProofs only [zy4, h4c, h4c.symm, evE, ↓evZ2, ↓evZ3, ↓Int.cast_ofNat_Int, implies_true, zy2, aFn, List.contains, List.elem, zq3, zy1, zq2, sub, zx3, zw2, zw3, zy3, gd, zq1, zw0, zq0, zx0, zx2, zx1, zy0, zw1, List.range', ↓reduceIte, reduceCtorEq, Nat.reduceEqDiff, Nat.reduceAdd, Nat.reduceLeDiff, Nat.reduceMul, Nat.reduceLT, Nat.reduceBEq, Int.reduceEq, tf_D2_36]
        refine (c_l1Var (k2 : Int) _).to ?_
        simp -implicitDefEqProofs only [Tm.av_cells, Tm.av_store, Tm.av_agg, take_all (Tm.av_cells _), agg_cells (Tm.av_agg _), zy4, h4c, h4c.symm, evE, ↓evZ2, ↓evZ3, ↓Int.cast_ofNat_Int, implies_true, zy2, aFn, List.contains, List.elem, zq3, zy1, zq2, sub, zx3, zw2, zw3, zy3, gd, zq1, zw0, zq0, zx0, zx2, zx1, zy0, zw1, List.range', ↓reduceIte, reduceCtorEq, Nat.reduceEqDiff, Nat.reduceAdd, Nat.reduceLeDiff, Nat.reduceMul, Nat.reduceLT, Nat.reduceBEq, Int.reduceEq, tf_D2_36]
        exact hend _ _ _ (vr k2) (by omega) (by omega) (dn_vr _)
      simp -implicitDefEqProofs only [zy4, h4c, h4c.symm, evE, ↓evZ2, ↓evZ3, ↓Int.cast_ofNat_Int, implies_true, zy2, aFn, List.contains, List.elem, zq3, zy1, zq2, sub, zx3, zw2, zw3, zy3, gd, zq1, zw0, zq0, zx0, zx2, zx1, zy0, zw1, List.range', ↓reduceIte, reduceCtorEq, Nat.reduceEqDiff, Nat.reduceAdd, Nat.reduceLeDiff, Nat.reduceMul, Nat.reduceLT, Nat.reduceBEq, Int.reduceEq, tf_D2_36]
      refine zq4 (fun h2 => ?_) (fun h2 => ?_)
      · simp -implicitDefEqProofs only [zy4, h4c, h4c.symm, evE, ↓evZ2, ↓evZ3, ↓Int.cast_ofNat_Int, implies_true, zy2, aFn, List.contains, List.elem, zq3, zy1, zq2, sub, zx3, zw2, zw3, zy3, gd, zq1, zw0, zq0, zx0, zx2, zx1, zy0, zw1, List.range', ↓reduceIte, reduceCtorEq, Nat.reduceEqDiff, Nat.reduceAdd, Nat.reduceLeDiff, Nat.reduceMul, Nat.reduceLT, Nat.reduceBEq, Int.reduceEq, tf_D2_36]
        refine (c_numF [0, 1, 7, -3, 999, -999] (by simp) (by simp) bs c (p + 1) (by omega) _ RdAt.new).mono ?_
        rintro _ _ ⟨x, hx, rfl, rfl⟩
        rw [zy7.upd_upd]
        simp -implicitDefEqProofs only [zy4, h4c, h4c.symm, evE, ↓evZ2, ↓evZ3, ↓Int.cast_ofNat_Int, implies_true, zy2, aFn, List.contains, List.elem, zq3, zy1, zq2, sub, zx3, zw2, zw3, zy3, gd, zq1, zw0, zq0, zx0, zx2, zx1, zy0, zw1, List.range', ↓reduceIte, reduceCtorEq, Nat.reduceEqDiff, Nat.reduceAdd, Nat.reduceLeDiff, Nat.reduceMul, Nat.reduceLT, Nat.reduceBEq, Int.reduceEq, tf_D2_36]
        refine (c_l1Int x _).to ?_
        simp -implicitDefEqProofs only [Tm.av_cells, Tm.av_store, Tm.av_agg, take_all (Tm.av_cells _), agg_cells (Tm.av_agg _), zy4, h4c, h4c.symm, evE, ↓evZ2, ↓evZ3, ↓Int.cast_ofNat_Int, implies_true, zy2, aFn, List.contains, List.elem, zq3, zy1, zq2, sub, zx3, zw2, zw3, zy3, gd, zq1, zw0, zq0, zx0, zx2, zx1, zy0, zw1, List.range', ↓reduceIte, reduceCtorEq, Nat.reduceEqDiff, Nat.reduceAdd, Nat.reduceLeDiff, Nat.reduceMul, Nat.reduceLT, Nat.reduceBEq, Int.reduceEq, tf_D2_36]
        exact hend _ _ _ (.mk 2 x ⟨#[]⟩ []) (by omega) (by omega) (dn_mk (by omega) (by simp) (by simp))
      · simp -implicitDefEqProofs only [zy4, h4c, h4c.symm, evE, ↓evZ2, ↓evZ3, ↓Int.cast_ofNat_Int, implies_true, zy2, aFn, List.contains, List.elem, zq3, zy1, zq2, sub, zx3, zw2, zw3, zy3, gd, zq1, zw0, zq0, zx0, zx2, zx1, zy0, zw1, List.range', ↓reduceIte, reduceCtorEq, Nat.reduceEqDiff, Nat.reduceAdd, Nat.reduceLeDiff, Nat.reduceMul, Nat.reduceLT, Nat.reduceBEq, Int.reduceEq, tf_D2_36]
        refine (c_ofF [⟨#[97]⟩, ⟨#[98]⟩, ⟨#[110, 105, 108]⟩, ⟨#[91, 93]⟩, ⟨#[102, 111, 111]⟩, ⟨#[43]⟩] (by simp) (by simp) bs c (p + 1) (by omega) _ RdAt.new).mono ?_
        rintro _ _ ⟨x, hx, rfl, rfl⟩
        rw [zy7.upd_upd]
        simp -implicitDefEqProofs only [zy4, h4c, h4c.symm, evE, ↓evZ2, ↓evZ3, ↓Int.cast_ofNat_Int, implies_true, zy2, aFn, List.contains, List.elem, zq3, zy1, zq2, sub, zx3, zw2, zw3, zy3, gd, zq1, zw0, zq0, zx0, zx2, zx1, zy0, zw1, List.range', ↓reduceIte, reduceCtorEq, Nat.reduceEqDiff, Nat.reduceAdd, Nat.reduceLeDiff, Nat.reduceMul, Nat.reduceLT, Nat.reduceBEq, Int.reduceEq, tf_D2_36]
        refine (c_l1StructF x [] (by simp) _).to ?_
        simp -implicitDefEqProofs only [Tm.av_cells, Tm.av_store, Tm.av_agg, take_all (Tm.av_cells _), agg_cells (Tm.av_agg _), zy4, h4c, h4c.symm, evE, ↓evZ2, ↓evZ3, ↓Int.cast_ofNat_Int, implies_true, zy2, aFn, List.contains, List.elem, zq3, zy1, zq2, sub, zx3, zw2, zw3, zy3, gd, zq1, zw0, zq0, zx0, zx2, zx1, zy0, zw1, List.range', ↓reduceIte, reduceCtorEq, Nat.reduceEqDiff, Nat.reduceAdd, Nat.reduceLeDiff, Nat.reduceMul, Nat.reduceLT, Nat.reduceBEq, Int.reduceEq, tf_D2_36]
        exact hend _ _ _ (.mk 3 0 x []) (by omega) (by omega) (dn_mk (by omega) (by simp) (by simp))
    simp -implicitDefEqProofs only [h, zy4, h4c, h4c.symm, evE, ↓evZ2, ↓evZ3, ↓Int.cast_ofNat_Int, implies_true, zy2, aFn, List.contains, List.elem, zq3, zy1, zq2, sub, zx3, zw2, zw3, zy3, gd, zq1, zw0, zq0, zx0, zx2, zx1, zy0, zw1, List.range', ↓reduceIte, reduceCtorEq, Nat.reduceEqDiff, Nat.reduceAdd, Nat.reduceLeDiff, Nat.reduceMul, Nat.reduceLT, Nat.reduceBEq, Int.reduceEq, tf_D2_36]
    have hd2 : 2 ≤ d := by simp at h; omega
    have hwx : ∀ z : Int, z = (d : Int) → IntKind.i64.wrap (z - 1) = z - 1 := fun z hz => wrap64 (by omega) (by omega)
    obtain ⟨d', rfl⟩ : ∃ d', d = d' + 1 := ⟨d - 1, by omega⟩
    have hpd : 4 ^ (d' + 1 + 2) = 4 * 4 ^ (d' + 2) := by rw [show d' + 1 + 2 = d' + 2 + 1 by omega, Nat.pow_succ]; omega
    have hp4 : 4 ≤ 4 ^ (d' + 2) := by have : 1 ≤ 4 ^ d' := Nat.one_le_pow _ _ (by omega); rw [Nat.pow_add]; omega
    have hwd : IntKind.i64.wrap (((d' + 1 : Nat) : Int) - 1) = (d' : Int) := by rw [wrap64 (by omega) (by omega)]; omega
    have hwd' : IntKind.i64.wrap ((d' : Int) + 1 - 1) = (d' : Int) := by rw [wrap64 (by omega) (by omega)]; omega
    have IHd := fun p st => IH d' (Nat.lt_succ_self _) p st
    generalize hM : 4 ^ (d' + 2) = M at *
    rw [hpd] at hp hpow16
    refine (c_pick bs c p (by omega) 4 (by omega) (by omega) _ (hR' _)).mono ?_
    rintro _ _ ⟨k, hk, rfl, rfl⟩
    simp -implicitDefEqProofs only [zy4, h4c, h4c.symm, hwd', hwd, evE, ↓evZ2, ↓evZ3, ↓Int.cast_ofNat_Int, implies_true, zy2, aFn, List.contains, List.elem, zq3, zy1, zq2, sub, zx3, zw2, zw3, zy3, gd, zq1, zw0, zq0, zx0, zx2, zx1, zy0, zw1, List.range', ↓reduceIte, reduceCtorEq, Nat.reduceEqDiff, Nat.reduceAdd, Nat.reduceLeDiff, Nat.reduceMul, Nat.reduceLT, Nat.reduceBEq, Int.reduceEq, tf_D2_36]
    refine zq4 (fun h1 => ?_) (fun h1 => ?_)
    · have hRq : RdAt ((st.upd b4 (.cells [.int .i64 0, .int .i64 0, .str ⟨#[]⟩, .fslice []])).upd c (rdC bs (p + 1))) c bs (p + 1) := RdAt.new
      simp -implicitDefEqProofs only [zy4, h4c, h4c.symm, hwd', hwd, evE, ↓evZ2, ↓evZ3, ↓Int.cast_ofNat_Int, implies_true, zy2, aFn, List.contains, List.elem, zq3, zy1, zq2, sub, zx3, zw2, zw3, zy3, gd, zq1, zw0, zq0, zx0, zx2, zx1, zy0, zw1, List.range', ↓reduceIte, reduceCtorEq, Nat.reduceEqDiff, Nat.reduceAdd, Nat.reduceLeDiff, Nat.reduceMul, Nat.reduceLT, Nat.reduceBEq, Int.reduceEq, tf_D2_36]
      refine (c_pick bs c (p + 1) (by omega) 4 (by omega) (by omega) _ hRq).mono ?_
      rintro _ _ ⟨k, hk, rfl, rfl⟩
      try rw [zy7.upd_upd]
      simp -implicitDefEqProofs only [zy4, h4c, h4c.symm, hwd', hwd, evE, ↓evZ2, ↓evZ3, ↓Int.cast_ofNat_Int, implies_true, zy2, aFn, List.contains, List.elem, zq3, zy1, zq2, sub, zx3, zw2, zw3, zy3, gd, zq1, zw0, zq0, zx0, zx2, zx1, zy0, zw1, List.range', ↓reduceIte, reduceCtorEq, Nat.reduceEqDiff, Nat.reduceAdd, Nat.reduceLeDiff, Nat.reduceMul, Nat.reduceLT, Nat.reduceBEq, Int.reduceEq, tf_D2_36]
      refine zq4 (fun h1 => ?_) (fun h1 => ?_)
      · simp -implicitDefEqProofs only [zy4, h4c, h4c.symm, hwd', hwd, evE, ↓evZ2, ↓evZ3, ↓Int.cast_ofNat_Int, implies_true, zy2, aFn, List.contains, List.elem, zq3, zy1, zq2, sub, zx3, zw2, zw3, zy3, gd, zq1, zw0, zq0, zx0, zx2, zx1, zy0, zw1, List.range', ↓reduceIte, reduceCtorEq, Nat.reduceEqDiff, Nat.reduceAdd, Nat.reduceLeDiff, Nat.reduceMul, Nat.reduceLT, Nat.reduceBEq, Int.reduceEq, tf_D2_36]
        refine (c_pick bs c (p + 1 + 1) (by omega) 4 (by omega) (by omega) _ RdAt.new).mono ?_
        rintro _ _ ⟨k2, hk2, rfl, rfl⟩
        rw [zy7.upd_upd]
        simp -implicitDefEqProofs only [zy4, h4c, h4c.symm, hwd', hwd, evE, ↓evZ2, ↓evZ3, ↓Int.cast_ofNat_Int, implies_true, zy2, aFn, List.contains, List.elem, zq3, zy1, zq2, sub, zx3, zw2, zw3, zy3, gd, zq1, zw0, zq0, zx0, zx2, zx1, zy0, zw1, List.range', ↓reduceIte, reduceCtorEq, Nat.reduceEqDiff, Nat.reduceAdd, Nat.reduceLeDiff, Nat.reduceMul, Nat.reduceLT, Nat.reduceBEq, Int.reduceEq, tf_D2_36]
        refine (c_l1Var (k2 : Int) _).to ?_
        simp -implicitDefEqProofs only [Tm.av_cells, Tm.av_store, Tm.av_agg, take_all (Tm.av_cells _), agg_cells (Tm.av_agg _), zy4, h4c, h4c.symm, hwd', hwd, evE, ↓evZ2, ↓evZ3, ↓Int.cast_ofNat_Int, implies_true, zy2, aFn, List.contains, List.elem, zq3, zy1, zq2, sub, zx3, zw2, zw3, zy3, gd, zq1, zw0, zq0, zx0, zx2, zx1, zy0, zw1, List.range', ↓reduceIte, reduceCtorEq, Nat.reduceEqDiff, Nat.reduceAdd, Nat.reduceLeDiff, Nat.reduceMul, Nat.reduceLT, Nat.reduceBEq, Int.reduceEq, tf_D2_36]
        exact hend _ _ _ (vr k2) (by omega) (by omega) (dn_vr _)
      simp -implicitDefEqProofs only [zy4, h4c, h4c.symm, hwd', hwd, evE, ↓evZ2, ↓evZ3, ↓Int.cast_ofNat_Int, implies_true, zy2, aFn, List.contains, List.elem, zq3, zy1, zq2, sub, zx3, zw2, zw3, zy3, gd, zq1, zw0, zq0, zx0, zx2, zx1, zy0, zw1, List.range', ↓reduceIte, reduceCtorEq, Nat.reduceEqDiff, Nat.reduceAdd, Nat.reduceLeDiff, Nat.reduceMul, Nat.reduceLT, Nat.reduceBEq, Int.reduceEq, tf_D2_36]
      refine zq4 (fun h2 => ?_) (fun h2 => ?_)
      · simp -implicitDefEqProofs only [zy4, h4c, h4c.symm, hwd', hwd, evE, ↓evZ2, ↓evZ3, ↓Int.cast_ofNat_Int, implies_true, zy2, aFn, List.contains, List.elem, zq3, zy1, zq2, sub, zx3, zw2, zw3, zy3, gd, zq1, zw0, zq0, zx0, zx2, zx1, zy0, zw1, List.range', ↓reduceIte, reduceCtorEq, Nat.reduceEqDiff, Nat.reduceAdd, Nat.reduceLeDiff, Nat.reduceMul, Nat.reduceLT, Nat.reduceBEq, Int.reduceEq, tf_D2_36]
        refine (c_numF [0, 1, 7, -3, 999, -999] (by simp) (by simp) bs c (p + 1 + 1) (by omega) _ RdAt.new).mono ?_
        rintro _ _ ⟨x, hx, rfl, rfl⟩
        rw [zy7.upd_upd]
        simp -implicitDefEqProofs only [zy4, h4c, h4c.symm, hwd', hwd, evE, ↓evZ2, ↓evZ3, ↓Int.cast_ofNat_Int, implies_true, zy2, aFn, List.contains, List.elem, zq3, zy1, zq2, sub, zx3, zw2, zw3, zy3, gd, zq1, zw0, zq0, zx0, zx2, zx1, zy0, zw1, List.range', ↓reduceIte, reduceCtorEq, Nat.reduceEqDiff, Nat.reduceAdd, Nat.reduceLeDiff, Nat.reduceMul, Nat.reduceLT, Nat.reduceBEq, Int.reduceEq, tf_D2_36]
        refine (c_l1Int x _).to ?_
        simp -implicitDefEqProofs only [Tm.av_cells, Tm.av_store, Tm.av_agg, take_all (Tm.av_cells _), agg_cells (Tm.av_agg _), zy4, h4c, h4c.symm, hwd', hwd, evE, ↓evZ2, ↓evZ3, ↓Int.cast_ofNat_Int, implies_true, zy2, aFn, List.contains, List.elem, zq3, zy1, zq2, sub, zx3, zw2, zw3, zy3, gd, zq1, zw0, zq0, zx0, zx2, zx1, zy0, zw1, List.range', ↓reduceIte, reduceCtorEq, Nat.reduceEqDiff, Nat.reduceAdd, Nat.reduceLeDiff, Nat.reduceMul, Nat.reduceLT, Nat.reduceBEq, Int.reduceEq, tf_D2_36]
        exact hend _ _ _ (.mk 2 x ⟨#[]⟩ []) (by omega) (by omega) (dn_mk (by omega) (by simp) (by simp))
      · simp -implicitDefEqProofs only [zy4, h4c, h4c.symm, hwd', hwd, evE, ↓evZ2, ↓evZ3, ↓Int.cast_ofNat_Int, implies_true, zy2, aFn, List.contains, List.elem, zq3, zy1, zq2, sub, zx3, zw2, zw3, zy3, gd, zq1, zw0, zq0, zx0, zx2, zx1, zy0, zw1, List.range', ↓reduceIte, reduceCtorEq, Nat.reduceEqDiff, Nat.reduceAdd, Nat.reduceLeDiff, Nat.reduceMul, Nat.reduceLT, Nat.reduceBEq, Int.reduceEq, tf_D2_36]
        refine (c_ofF [⟨#[97]⟩, ⟨#[98]⟩, ⟨#[110, 105, 108]⟩, ⟨#[91, 93]⟩, ⟨#[102, 111, 111]⟩, ⟨#[43]⟩] (by simp) (by simp) bs c (p + 1 + 1) (by omega) _ RdAt.new).mono ?_
        rintro _ _ ⟨x, hx, rfl, rfl⟩
        rw [zy7.upd_upd]
        simp -implicitDefEqProofs only [zy4, h4c, h4c.symm, hwd', hwd, evE, ↓evZ2, ↓evZ3, ↓Int.cast_ofNat_Int, implies_true, zy2, aFn, List.contains, List.elem, zq3, zy1, zq2, sub, zx3, zw2, zw3, zy3, gd, zq1, zw0, zq0, zx0, zx2, zx1, zy0, zw1, List.range', ↓reduceIte, reduceCtorEq, Nat.reduceEqDiff, Nat.reduceAdd, Nat.reduceLeDiff, Nat.reduceMul, Nat.reduceLT, Nat.reduceBEq, Int.reduceEq, tf_D2_36]
        refine (c_l1StructF x [] (by simp) _).to ?_
        simp -implicitDefEqProofs only [Tm.av_cells, Tm.av_store, Tm.av_agg, take_all (Tm.av_cells _), agg_cells (Tm.av_agg _), zy4, h4c, h4c.symm, hwd', hwd, evE, ↓evZ2, ↓evZ3, ↓Int.cast_ofNat_Int, implies_true, zy2, aFn, List.contains, List.elem, zq3, zy1, zq2, sub, zx3, zw2, zw3, zy3, gd, zq1, zw0, zq0, zx0, zx2, zx1, zy0, zw1, List.range', ↓reduceIte, reduceCtorEq, Nat.reduceEqDiff, Nat.reduceAdd, Nat.reduceLeDiff, Nat.reduceMul, Nat.reduceLT, Nat.reduceBEq, Int.reduceEq, tf_D2_36]
        exact hend _ _ _ (.mk 3 0 x []) (by omega) (by omega) (dn_mk (by omega) (by simp) (by simp))
    · simp -implicitDefEqProofs only [zy4, h4c, h4c.symm, hwd', hwd, evE, ↓evZ2, ↓evZ3, ↓Int.cast_ofNat_Int, implies_true, zy2, aFn, List.contains, List.elem, zq3, zy1, zq2, sub, zx3, zw2, zw3, zy3, gd, zq1, zw0, zq0, zx0, zx2, zx1, zy0, zw1, List.range', ↓reduceIte, reduceCtorEq, Nat.reduceEqDiff, Nat.reduceAdd, Nat.reduceLeDiff, Nat.reduceMul, Nat.reduceLT, Nat.reduceBEq, Int.reduceEq, tf_D2_36]
      refine (c_pick bs c (p + 1) (by omega) 3 (by omega) (by omega) _ RdAt.new).mono ?_
      rintro _ _ ⟨k2, hk2, rfl, rfl⟩
      rw [zy7.upd_upd]
      simp -implicitDefEqProofs only [zy4, h4c, h4c.symm, hwd', hwd, evE, ↓evZ2, ↓evZ3, ↓Int.cast_ofNat_Int, implies_true, zy2, aFn, List.contains, List.elem, zq3, zy1, zq2, sub, zx3, zw2, zw3, zy3, gd, zq1, zw0, zq0, zx0, zx2, zx1, zy0, zw1, List.range', ↓reduceIte, reduceCtorEq, Nat.reduceEqDiff, Nat.reduceAdd, Nat.reduceLeDiff, Nat.reduceMul, Nat.reduceLT, Nat.reduceBEq, Int.reduceEq, tf_D2_36]
      refine zq4 (fun h2 => ?_) (fun h2 => ?_)
      · simp -implicitDefEqProofs only [zy4, h4c, h4c.symm, hwd', hwd, evE, ↓evZ2, ↓evZ3, ↓Int.cast_ofNat_Int, implies_true, zy2, aFn, List.contains, List.elem, zq3, zy1, zq2, sub, zx3, zw2, zw3, zy3, gd, zq1, zw0, zq0, zx0, zx2, zx1, zy0, zw1, List.range', ↓reduceIte, reduceCtorEq, Nat.reduceEqDiff, Nat.reduceAdd, Nat.reduceLeDiff, Nat.reduceMul, Nat.reduceLT, Nat.reduceBEq, Int.reduceEq, tf_D2_36]
        refine (IHd (p + 1 + 1) _ (by omega) (by omega) RdAt.new).mono ?_
        rintro _ _ ⟨p1, hp1, hp1', rfl, t1, ht1, rfl⟩
        rw [zy7.upd_upd]
        simp -implicitDefEqProofs only [zy4, h4c, h4c.symm, hwd', hwd, evE, ↓evZ2, ↓evZ3, ↓Int.cast_ofNat_Int, implies_true, zy2, aFn, List.contains, List.elem, zq3, zy1, zq2, sub, zx3, zw2, zw3, zy3, gd, zq1, zw0, zq0, zx0, zx2, zx1, zy0, zw1, List.range', ↓reduceIte, reduceCtorEq, Nat.reduceEqDiff, Nat.reduceAdd, Nat.reduceLeDiff, Nat.reduceMul, Nat.reduceLT, Nat.reduceBEq, Int.reduceEq, tf_D2_36]
        refine (IHd p1 _ (by omega) (by omega) RdAt.new).mono ?_
        rintro _ _ ⟨p2, hp2, hp2', rfl, t2, ht2, rfl⟩
        rw [zy7.upd_upd]
        simp -implicitDefEqProofs only [zy4, h4c, h4c.symm, hwd', hwd, evE, ↓evZ2, ↓evZ3, ↓Int.cast_ofNat_Int, implies_true, zy2, aFn, List.contains, List.elem, zq3, zy1, zq2, sub, zx3, zw2, zw3, zy3, gd, zq1, zw0, zq0, zx0, zx2, zx1, zy0, zw1, List.range', ↓reduceIte, reduceCtorEq, Nat.reduceEqDiff, Nat.reduceAdd, Nat.reduceLeDiff, Nat.reduceMul, Nat.reduceLT, Nat.reduceBEq, Int.reduceEq, tf_D2_36]
        refine (c_l1StructF ⟨#[46]⟩ [t1, t2] (by simp) _).to ?_
        simp -implicitDefEqProofs only [Tm.av_cells, Tm.av_store, Tm.av_agg, take_all (Tm.av_cells _), agg_cells (Tm.av_agg _), zy4, h4c, h4c.symm, hwd', hwd, evE, ↓evZ2, ↓evZ3, ↓Int.cast_ofNat_Int, implies_true, zy2, aFn, List.contains, List.elem, zq3, zy1, zq2, sub, zx3, zw2, zw3, zy3, gd, zq1, zw0, zq0, zx0, zx2, zx1, zy0, zw1, List.range', ↓reduceIte, reduceCtorEq, Nat.reduceEqDiff, Nat.reduceAdd, Nat.reduceLeDiff, Nat.reduceMul, Nat.reduceLT, Nat.reduceBEq, Int.reduceEq, tf_D2_36]
        exact hend _ _ _ (.mk 3 0 ⟨#[46]⟩ [t1, t2]) (by omega) (by omega) (dn_mk (by omega) (by simp) (by intro x hx; simp only [List.mem_cons, List.not_mem_nil, or_false] at hx; rcases hx with rfl | rfl <;> assumption))
      · simp -implicitDefEqProofs only [zy4, h4c, h4c.symm, hwd', hwd, evE, ↓evZ2, ↓evZ3, ↓Int.cast_ofNat_Int, implies_true, zy2, aFn, List.contains, List.elem, zq3, zy1, zq2, sub, zx3, zw2, zw3, zy3, gd, zq1, zw0, zq0, zx0, zx2, zx1, zy0, zw1, List.range', ↓reduceIte, reduceCtorEq, Nat.reduceEqDiff, Nat.reduceAdd, Nat.reduceLeDiff, Nat.reduceMul, Nat.reduceLT, Nat.reduceBEq, Int.reduceEq, tf_D2_36]
        refine (c_ofF [⟨#[102]⟩, ⟨#[103]⟩, ⟨#[115]⟩, ⟨#[43]⟩, ⟨#[61]⟩, ⟨#[105, 115]⟩, ⟨#[102, 111, 111]⟩] (by simp) (by simp) bs c (p + 1 + 1) (by omega) _ RdAt.new).mono ?_
        rintro _ _ ⟨x, _, rfl, rfl⟩
        rw [zy7.upd_upd]
        simp -implicitDefEqProofs only [zy4, h4c, h4c.symm, hwd', hwd, evE, ↓evZ2, ↓evZ3, ↓Int.cast_ofNat_Int, implies_true, zy2, aFn, List.contains, List.elem, zq3, zy1, zq2, sub, zx3, zw2, zw3, zy3, gd, zq1, zw0, zq0, zx0, zx2, zx1, zy0, zw1, List.range', ↓reduceIte, reduceCtorEq, Nat.reduceEqDiff, Nat.reduceAdd, Nat.reduceLeDiff, Nat.reduceMul, Nat.reduceLT, Nat.reduceBEq, Int.reduceEq, tf_D2_36]
        refine (c_l1Struct0 x _).to ?_
        simp -implicitDefEqProofs only [zy4, h4c, h4c.symm, hwd', hwd, evE, ↓evZ2, ↓evZ3, ↓Int.cast_ofNat_Int, implies_true, zy2, aFn, List.contains, List.elem, zq3, zy1, zq2, sub, zx3, zw2, zw3, zy3, gd, zq1, zw0, zq0, zx0, zx2, zx1, zy0, zw1, List.range', ↓reduceIte, reduceCtorEq, Nat.reduceEqDiff, Nat.reduceAdd, Nat.reduceLeDiff, Nat.reduceMul, Nat.reduceLT, Nat.reduceBEq, Int.reduceEq, tf_D2_36]
        intro b5 h5
        have h54 : b5 ≠ b4 := by rintro rfl; simp [zy7.upd, h4c] at h5
        have h5c : b5 ≠ c := by rintro rfl; simp [zy7.upd] at h5
        have hn5 : st b5 = none := by rw [zy7.upd_ne _ _ h5c, zy7.upd_ne _ _ h54] at h5; exact h5
        refine (c_numF [2, 1, 3, 2] (by simp) (by simp) bs c (p + 1 + 1 + 1) (by omega) _ (RdAt.new.upd h5c)).mono ?_
        rintro _ _ ⟨y, hy, rfl, rfl⟩
        obtain ⟨n, rfl, hn⟩ : ∃ n : Nat, y = n ∧ n ≤ 3 := by
          simp only [List.mem_cons, List.not_mem_nil, or_false] at hy
          rcases hy with rfl | rfl | rfl | rfl
          · exact ⟨2, rfl, by omega⟩
          · exact ⟨1, rfl, by omega⟩
          · exact ⟨3, rfl, by omega⟩
          · exact ⟨2, rfl, by omega⟩
        rw [zy7.upd_mid h5c, zy7.upd_comm _ _ _ h5c]
        have hW4 : ∀ q, ((st.upd b4 (.cells [.int .i64 0, .int .i64 0, .str ⟨#[]⟩, .fslice []])).upd c (rdC bs q)) b4 = some (.cells [.int .i64 0, .int .i64 0, .str ⟨#[]⟩, .fslice []]) := fun q => by rw [zy7.upd_ne _ _ h4c, zy7.upd_same]
        simp -implicitDefEqProofs only [zy4, h4c, h4c.symm, hwd', hwd, h54, h54.symm, h5c, h5c.symm, evE, ↓evZ2, ↓evZ3, ↓Int.cast_ofNat_Int, implies_true, zy2, aFn, List.contains, List.elem, zq3, zy1, zq2, sub, zx3, zw2, zw3, zy3, gd, zq1, zw0, zq0, zx0, zx2, zx1, zy0, zw1, List.range', ↓reduceIte, reduceCtorEq, Nat.reduceEqDiff, Nat.reduceAdd, Nat.reduceLeDiff, Nat.reduceMul, Nat.reduceLT, Nat.reduceBEq, Int.reduceEq, tf_D2_36]
        refine zw5 (σ := Nat × Nat × List Tm × Nat) [1000000, 5] [0, 1, 4, 5]
          (fun s => (s.2.2.1.map Tm.av ≠ [] → (zy7.upd ((st.upd b4 (.cells [.int .i64 0, .int .i64 0, .str ⟨#[]⟩, .fslice []])).upd c (rdC bs s.2.2.2)) b5 (.cells ([.int .i64 3, .int .i64 0, .str x] ++ [accV 4 s.2.1 (s.2.2.1.map Tm.av)]))) s.2.1 = none) ∧ s.2.2.1.length + s.1 ≤ 3 ∧ (∀ t ∈ s.2.2.1, Dn t) ∧ p ≤ s.2.2.2 ∧ s.2.2.2 + s.1 * M ≤ p + 4 * M)
          (fun s => [(6, .int .i64 s.1)]) (fun s => kidS ((st.upd b4 (.cells [.int .i64 0, .int .i64 0, .str ⟨#[]⟩, .fslice []])).upd c (rdC bs s.2.2.2)) b5 s.2.1 [.int .i64 3, .int .i64 0, .str x] (s.2.2.1.map Tm.av)) (fun s => s.1) (by decide +kernel)
          ⟨(n, 0, [], p + 1 + 1 + 1 + 1), ⟨fun h => absurd rfl h, by simpa using hn, by simp, by simp only; omega, ?_⟩, zx7.mk (by simp -implicitDefEqProofs only [zy4, h4c, h4c.symm, hwd', hwd, h54, h54.symm, h5c, h5c.symm, evE, ↓evZ2, ↓evZ3, ↓Int.cast_ofNat_Int, implies_true, zy2, aFn, List.contains, List.elem, zq3, zy1, zq2, sub, zx3, zw2, zw3, zy3, gd, zq1, zw0, zq0, zx0, zx2, zx1, zy0, zw1, List.range', ↓reduceIte, reduceCtorEq, Nat.reduceEqDiff, Nat.reduceAdd, Nat.reduceLeDiff, Nat.reduceMul, Nat.reduceLT, Nat.reduceBEq, Int.reduceEq, tf_D2_36])⟩ ?_
        · simp only
          have := Nat.mul_le_mul_right M hn
          omega
        rintro ⟨i, b, acc, q⟩ ⟨i1, i2, i3, i4, i5⟩
        simp only at i1 i2 i3 i4 i5
        simp -implicitDefEqProofs only [zy4, h4c, h4c.symm, hwd', hwd, h54, h54.symm, h5c, h5c.symm, evE, ↓evZ2, ↓evZ3, ↓Int.cast_ofNat_Int, implies_true, zy2, aFn, List.contains, List.elem, zq3, zy1, zq2, sub, zx3, zw2, zw3, zy3, gd, zq1, zw0, zq0, zx0, zx2, zx1, zy0, zw1, List.range', ↓reduceIte, reduceCtorEq, Nat.reduceEqDiff, Nat.reduceAdd, Nat.reduceLeDiff, Nat.reduceMul, Nat.reduceLT, Nat.reduceBEq, Int.reduceEq, tf_D2_36]
        refine zq4 (fun h3 => ?_) (fun h3 => ?_)
        · simp only [decide_eq_true_eq] at h3
          have hbo := kidS_c i1
          have hSc : ((st.upd b4 (.cells [.int .i64 0, .int .i64 0, .str ⟨#[]⟩, .fslice []])).upd c (rdC bs q)) c ≠ none := by rw [zy7.upd_same]; simp
          have hRk : RdAt (kidS ((st.upd b4 (.cells [.int .i64 0, .int .i64 0, .str ⟨#[]⟩, .fslice []])).upd c (rdC bs q)) b5 b [.int .i64 3, .int .i64 0, .str x] (acc.map Tm.av)) c bs q := by
            unfold RdAt
            rw [kidS_ne i1 hSc h5c.symm, zy7.upd_same]
            rfl
          have hM1 : M ≤ i * M := by have := Nat.mul_le_mul_right M (show 1 ≤ i by omega); omega
          have hMi : (i - 1) * M + M = i * M := by rw [← Nat.succ_mul]; congr 1; omega
          have hwi : IntKind.i64.wrap ((i : Int) - 1) = ((i - 1 : Nat) : Int) := by rw [wrap64 (by omega) (by omega)]; omega
          have hlen' : (acc.map Tm.av).length ≤ 3 := by rw [List.length_map]; omega
          simp -implicitDefEqProofs only [zy4, hwd', hwd, accV_agg, accV_width, accV_junk, accV_store, accV_cells, evE, ↓evZ2, ↓evZ3, ↓Int.cast_ofNat_Int, implies_true, zy2, aFn, List.contains, List.elem, zq3, zy1, zq2, sub, zx3, zw2, zw3, zy3, gd, zq1, zw0, zq0, zx0, zx2, zx1, zy0, zw1, List.range', ↓reduceIte, reduceCtorEq, Nat.reduceEqDiff, Nat.reduceAdd, Nat.reduceLeDiff, Nat.reduceMul, Nat.reduceLT, Nat.reduceBEq, Int.reduceEq, tf_D2_36]
          refine zq5 [(0, 1), (1, 1), (2, 1), (3, 1), (4, 1), (5, 0), (6, 1), (7, 0), (8, 1), (9, 2)] [0, 1, 2, 3, 4, 6, 8] (none0'.upd b5 (.cells [.int .i64 3, .int .i64 0, .str x, accV 4 b (acc.map Tm.av)])) mixed (by decide +kernel) (by decide +kernel) (by decide +kernel) rfl (ext_one hbo) ?_
          simp -implicitDefEqProofs only [zy4, hwd', hwd, accV_agg, accV_width, accV_junk, accV_store, accV_cells, evE, ↓evZ2, ↓evZ3, ↓Int.cast_ofNat_Int, implies_true, zy2, aFn, List.contains, List.elem, zq3, zy1, zq2, sub, zx3, zw2, zw3, zy3, gd, zq1, zw0, zq0, zx0, zx2, zx1, zy0, zw1, List.range', ↓reduceIte, reduceCtorEq, Nat.reduceEqDiff, Nat.reduceAdd, Nat.reduceLeDiff, Nat.reduceMul, Nat.reduceLT, Nat.reduceBEq, Int.reduceEq, tf_D2_36]
          refine (IHd q _ (by omega) (by omega) hRk).mono ?_
          rintro _ _ ⟨q', hq1, hq2, rfl, t, ht, rfl⟩
          obtain ⟨e1, i1'⟩ := kidS_beside (o := rdC bs q') i1 hSc h5c.symm
          rw [zy7.upd_upd] at e1 i1'
          rw [e1]
          simp -implicitDefEqProofs only [Tm.av_agg, Tm.av_width, Tm.av_store, Tm.av_junk, zy4, hwd', hwd, accV_agg, accV_width, accV_junk, accV_store, accV_cells, evE, ↓evZ2, ↓evZ3, ↓Int.cast_ofNat_Int, implies_true, zy2, aFn, List.contains, List.elem, zq3, zy1, zq2, sub, zx3, zw2, zw3, zy3, gd, zq1, zw0, zq0, zx0, zx2, zx1, zy0, zw1, List.range', ↓reduceIte, reduceCtorEq, Nat.reduceEqDiff, Nat.reduceAdd, Nat.reduceLeDiff, Nat.reduceMul, Nat.reduceLT, Nat.reduceBEq, Int.reduceEq, tf_D2_36]
          refine ⟨ext_one (kidS_c i1'), ?_⟩
          refine acc_append eI_23 eB_23 eZ_23 rfl rfl (by intro e he; simp only [List.mem_cons, List.not_mem_nil, or_false] at he; subst he; exact ⟨Tm.av_width _, Tm.av_store _⟩) (tm_widths _) i1' (by simp only [List.length_cons, List.length_nil]; omega) (by simp only [List.length_cons, List.length_nil]; omega) (fun b' hb' => ?_)
          rw [show acc.map Tm.av ++ [t.av] = (acc ++ [t]).map Tm.av by simp] at hb' ⊢
          obtain ⟨g1, g2, g3⟩ := kidS_set hb'
          simp only [List.cons_append, List.nil_append] at g1 g3
          simp -implicitDefEqProofs only [zy4, hwd', hwd, accV_agg, accV_width, accV_junk, accV_store, accV_cells, evE, ↓evZ2, ↓evZ3, ↓Int.cast_ofNat_Int, implies_true, zy2, aFn, List.contains, List.elem, zq3, zy1, zq2, sub, zx3, zw2, zw3, zy3, gd, zq1, zw0, zq0, zx0, zx2, zx1, zy0, zw1, List.range', ↓reduceIte, reduceCtorEq, Nat.reduceEqDiff, Nat.reduceAdd, Nat.reduceLeDiff, Nat.reduceMul, Nat.reduceLT, Nat.reduceBEq, Int.reduceEq, tf_D2_36]
          refine ⟨ext_one g3, ?_⟩
          simp -implicitDefEqProofs only [g3, Nat.le_refl, g1, hwi, zy4, hwd', hwd, accV_agg, accV_width, accV_junk, accV_store, accV_cells, evE, ↓evZ2, ↓evZ3, ↓Int.cast_ofNat_Int, implies_true, zy2, aFn, List.contains, List.elem, zq3, zy1, zq2, sub, zx3, zw2, zw3, zy3, gd, zq1, zw0, zq0, zx0, zx2, zx1, zy0, zw1, List.range', ↓reduceIte, reduceCtorEq, Nat.reduceEqDiff, Nat.reduceAdd, Nat.reduceLeDiff, Nat.reduceMul, Nat.reduceLT, Nat.reduceBEq, Int.reduceEq, tf_D2_36]
          refine ⟨(i - 1, b', acc ++ [t], q'), by simp only; omega, ⟨g2, by simp only [List.length_append, List.length_cons, List.length_nil]; omega, fun u hu => ?_, by simp only; omega, by simp only; omega⟩, zx7.mk (by simp -implicitDefEqProofs only [zy4, hwd', hwd, accV_agg, accV_width, accV_junk, accV_store, accV_cells, evE, ↓evZ2, ↓evZ3, ↓Int.cast_ofNat_Int, implies_true, zy2, aFn, List.contains, List.elem, zq3, zy1, zq2, sub, zx3, zw2, zw3, zy3, gd, zq1, zw0, zq0, zx0, zx2, zx1, zy0, zw1, List.range', ↓reduceIte, reduceCtorEq, Nat.reduceEqDiff, Nat.reduceAdd, Nat.reduceLeDiff, Nat.reduceMul, Nat.reduceLT, Nat.reduceBEq, Int.reduceEq, tf_D2_36])⟩
          rcases List.mem_append.1 hu with hu | hu
          · exact i3 u hu
          · simp only [List.mem_cons, List.not_mem_nil, or_false] at hu
            subst hu
            exact ht
        · have hbo := kidS_c i1
          have h4o := kidS_ne i1 (x := b4) (by rw [hW4]; simp) h54.symm
          rw [hW4] at h4o
          simp -implicitDefEqProofs only [zy4, hbo, h4o, accV_store, evE, ↓evZ2, ↓evZ3, ↓Int.cast_ofNat_Int, implies_true, zy2, aFn, List.contains, List.elem, zq3, zy1, zq2, sub, zx3, zw2, zw3, zy3, gd, zq1, zw0, zq0, zx0, zx2, zx1, zy0, zw1, List.range', ↓reduceIte, reduceCtorEq, Nat.reduceEqDiff, Nat.reduceAdd, Nat.reduceLeDiff, Nat.reduceMul, Nat.reduceLT, Nat.reduceBEq, Int.reduceEq, tf_D2_36]
          obtain ⟨g5, g6⟩ := kidS_upd (o := .cells [.int .i64 3, .int .i64 0, .str x, accV 4 b (acc.map Tm.av)]) i1 (show ((st.upd b4 (.cells [.int .i64 0, .int .i64 0, .str ⟨#[]⟩, .fslice []])).upd c (rdC bs q)) b4 ≠ none by rw [hW4]; simp) h54.symm
          refine ⟨b, _, _, g5, g6, tm_junk _, ⟨4, tm_widths _⟩, st.upd c (rdC bs q), ?_, q, i4, by omega, rfl, .mk 3 0 x acc, dn_mk (by omega) (by omega) i3, ?_⟩
          · intro y
            by_cases e4 : y = b4 <;> by_cases ec : y = c <;> by_cases e5 : y = b5 <;> simp_all [zy7.upd]
          · simp only [fin_agg, List.map_cons, List.map_nil, fin_int, fin_str, accV_fin, Tm.av_mk]
termination_by d => d
decreasing_by exact hlt
end Go.AW


namespace Go.AW
open Go.Proofs.Try
set_option linter.unusedSimpArgs false
set_option maxRecDepth 100000
abbrev tf_B6_52 := And.intro tI_2 (And.intro zI_2 (And.intro underlying2 (And.intro tI_3 (And.intro zI_3 (And.intro underlying3 (And.intro tI_4 (And.intro zI_4 (And.intro underlying4 (And.intro tI_5 (And.intro zI_5 underlying5))))))))))
theorem c_l5Code (b : Bool) (st : zy7) : zq7 prog 52 [.bool b] st (fun r st' => r = .int .i64 (codeB b) ∧ st' = st) := by
  refine zw6 [1000000] func52 ntmps52 rfl rfl (by kernel_rfl) (by decide +kernel) (by show 1 ≤ _; decide +kernel) ?_
  intro _
  simp -implicitDefEqProofs only [evE, ↓evZ2, ↓evZ3, ↓Int.cast_ofNat_Int, implies_true, zy2, aFn, List.contains, List.elem, zq3, zy1, zq2, sub, zx3, zw2, zw3, zy3, gd, zq1, zw0, zq0, zx0, zx2, zx1, zy0, zw1, List.range', ↓reduceIte, reduceCtorEq, Nat.reduceEqDiff, Nat.reduceAdd, Nat.reduceLeDiff, Nat.reduceMul, Nat.reduceLT, Nat.reduceBEq, Int.reduceEq, tf_B6_52]
  cases b
  · simp -implicitDefEqProofs only [codeB, evE, ↓evZ2, ↓evZ3, ↓Int.cast_ofNat_Int, implies_true, zy2, aFn, List.contains, List.elem, zq3, zy1, zq2, sub, zx3, zw2, zw3, zy3, gd, zq1, zw0, zq0, zx0, zx2, zx1, zy0, zw1, List.range', ↓reduceIte, reduceCtorEq, Nat.reduceEqDiff, Nat.reduceAdd, Nat.reduceLeDiff, Nat.reduceMul, Nat.reduceLT, Nat.reduceBEq, Int.reduceEq, tf_B6_52]
  · simp -implicitDefEqProofs only [codeB, evE, ↓evZ2, ↓evZ3, ↓Int.cast_ofNat_Int, implies_true, zy2, aFn, List.contains, List.elem, zq3, zy1, zq2, sub, zx3, zw2, zw3, zy3, gd, zq1, zw0, zq0, zx0, zx2, zx1, zy0, zw1, List.range', ↓reduceIte, reduceCtorEq, Nat.reduceEqDiff, Nat.reduceAdd, Nat.reduceLeDiff, Nat.reduceMul, Nat.reduceLT, Nat.reduceBEq, Int.reduceEq, tf_B6_52]
abbrev tf_B6_57 := And.intro tI_2 (And.intro zI_2 (And.intro underlying2 (And.intro tI_4 (And.intro zI_4 (And.intro underlying4 (And.intro tI_5 (And.intro zI_5 (And.intro underlying5 (And.intro tI_6 (And.intro zI_6 (And.intro underlying6 (And.intro tI_9 (And.intro zI_9 (And.intro underlying9 (And.intro tI_10 (And.intro zI_10 (And.intro underlying10 (And.intro tI_14 (And.intro zI_14 (And.intro fI_14_0 (And.intro fI_14_1 (And.intro bI_14 (And.intro tI_21 (And.intro zI_21 (And.intro underlying21 (And.intro tI_58 (And.intro zI_58 (And.intro fI_58_0 (And.intro fI_58_1 (And.intro bI_58 (And.intro tI_61 (And.intro zI_61 (And.intro eI_61 (And.intro eB_61 (And.intro eZ_61 underlying61)))))))))))))))))))))))))))))))))))
theorem c_l5Compares (s : ByteArray) (st : zy7) : zq7 prog 57 [.str s] st (fun r st' => r = .bool (inN cmpNames s) ∧ st' = st) := by
  have hin : inN cmpNames s = (decide (s = ⟨#[60]⟩) || (decide (s = ⟨#[62]⟩) || (decide (s = ⟨#[61, 60]⟩) || (decide (s = ⟨#[62, 61]⟩) || decide (s = ⟨#[61, 58, 61]⟩))))) := by
    simp only [inN, cmpNames, List.any_cons, List.any_nil, Bool.or_false]
  rw [hin]
  refine zw6 [1000000] func57 ntmps57 rfl rfl (by kernel_rfl) (by decide +kernel) (by show 1 ≤ _; decide +kernel) ?_
  intro _
  simp -implicitDefEqProofs only [evE, ↓evZ2, ↓evZ3, ↓Int.cast_ofNat_Int, implies_true, zy2, aFn, List.contains, List.elem, zq3, zy1, zq2, sub, zx3, zw2, zw3, zy3, gd, zq1, zw0, zq0, zx0, zx2, zx1, zy0, zw1, List.range', ↓reduceIte, reduceCtorEq, Nat.reduceEqDiff, Nat.reduceAdd, Nat.reduceLeDiff, Nat.reduceMul, Nat.reduceLT, Nat.reduceBEq, Int.reduceEq, tf_B6_57]
  refine zx4 (fun h1 => ?_) (fun h1 => ?_)
  case refine_2 =>
    simp -implicitDefEqProofs only [h1, evE, ↓evZ2, ↓evZ3, ↓Int.cast_ofNat_Int, implies_true, zy2, aFn, List.contains, List.elem, zq3, zy1, zq2, sub, zx3, zw2, zw3, zy3, gd, zq1, zw0, zq0, zx0, zx2, zx1, zy0, zw1, List.range', ↓reduceIte, reduceCtorEq, Nat.reduceEqDiff, Nat.reduceAdd, Nat.reduceLeDiff, Nat.reduceMul, Nat.reduceLT, Nat.reduceBEq, Int.reduceEq, tf_B6_57]
    simp at h1; simp [h1]
  simp -implicitDefEqProofs only [h1, evE, ↓evZ2, ↓evZ3, ↓Int.cast_ofNat_Int, implies_true, zy2, aFn, List.contains, List.elem, zq3, zy1, zq2, sub, zx3, zw2, zw3, zy3, gd, zq1, zw0, zq0, zx0, zx2, zx1, zy0, zw1, List.range', ↓reduceIte, reduceCtorEq, Nat.reduceEqDiff, Nat.reduceAdd, Nat.reduceLeDiff, Nat.reduceMul, Nat.reduceLT, Nat.reduceBEq, Int.reduceEq, tf_B6_57]
  refine zx4 (fun h2 => ?_) (fun h2 => ?_)
  case refine_2 =>
    simp -implicitDefEqProofs only [h2, evE, ↓evZ2, ↓evZ3, ↓Int.cast_ofNat_Int, implies_true, zy2, aFn, List.contains, List.elem, zq3, zy1, zq2, sub, zx3, zw2, zw3, zy3, gd, zq1, zw0, zq0, zx0, zx2, zx1, zy0, zw1, List.range', ↓reduceIte, reduceCtorEq, Nat.reduceEqDiff, Nat.reduceAdd, Nat.reduceLeDiff, Nat.reduceMul, Nat.reduceLT, Nat.reduceBEq, Int.reduceEq, tf_B6_57]
    simp at h2; simp [h2]
  simp -implicitDefEqProofs only [h2, evE, ↓evZ2, ↓evZ3, ↓Int.cast_ofNat_Int, implies_true, zy2, aFn, List.contains, List.elem, zq3, zy1, zq2, sub, zx3, zw2, zw3, zy3, gd, zq1, zw0, zq0, zx0, zx2, zx1, zy0, zw1, List.range', ↓reduceIte, reduceCtorEq, Nat.reduceEqDiff, Nat.reduceAdd, Nat.reduceLeDiff, Nat.reduceMul, Nat.reduceLT, Nat.reduceBEq, Int.reduceEq, tf_B6_57]
  refine zx4 (fun h3 => ?_) (fun h3 => ?_)
  case refine_2 =>
    simp -implicitDefEqProofs only [h3, evE, ↓evZ2, ↓evZ3, ↓Int.cast_ofNat_Int, implies_true, zy2, aFn, List.contains, List.elem, zq3, zy1, zq2, sub, zx3, zw2, zw3, zy3, gd, zq1, zw0, zq0, zx0, zx2, zx1, zy0, zw1, List.range', ↓reduceIte, reduceCtorEq, Nat.reduceEqDiff, Nat.reduceAdd, Nat.reduceLeDiff, Nat.reduceMul, Nat.reduceLT, Nat.reduceBEq, Int.reduceEq, tf_B6_57]
    simp at h3; simp [h3]
  simp -implicitDefEqProofs only [h3, evE, ↓evZ2, ↓evZ3, ↓Int.cast_ofNat_Int, implies_true, zy2, aFn, List.contains, List.elem, zq3, zy1, zq2, sub, zx3, zw2, zw3, zy3, gd, zq1, zw0, zq0, zx0, zx2, zx1, zy0, zw1, List.range', ↓reduceIte, reduceCtorEq, Nat.reduceEqDiff, Nat.reduceAdd, Nat.reduceLeDiff, Nat.reduceMul, Nat.reduceLT, Nat.reduceBEq, Int.reduceEq, tf_B6_57]
  refine zx4 (fun h4 => ?_) (fun h4 => ?_)
  case refine_2 =>
    simp -implicitDefEqProofs only [h4, evE, ↓evZ2, ↓evZ3, ↓Int.cast_ofNat_Int, implies_true, zy2, aFn, List.contains, List.elem, zq3, zy1, zq2, sub, zx3, zw2, zw3, zy3, gd, zq1, zw0, zq0, zx0, zx2, zx1, zy0, zw1, List.range', ↓reduceIte, reduceCtorEq, Nat.reduceEqDiff, Nat.reduceAdd, Nat.reduceLeDiff, Nat.reduceMul, Nat.reduceLT, Nat.reduceBEq, Int.reduceEq, tf_B6_57]
    simp at h4; simp [h4]
  simp -implicitDefEqProofs only [h4, evE, ↓evZ2, ↓evZ3, ↓Int.cast_ofNat_Int, implies_true, zy2, aFn, List.contains, List.elem, zq3, zy1, zq2, sub, zx3, zw2, zw3, zy3, gd, zq1, zw0, zq0, zx0, zx2, zx1, zy0, zw1, List.range', ↓reduceIte, reduceCtorEq, Nat.reduceEqDiff, Nat.reduceAdd, Nat.reduceLeDiff, Nat.reduceMul, Nat.reduceLT, Nat.reduceBEq, Int.reduceEq, tf_B6_57]
abbrev tf_B6_75 := And.intro tI_2 (And.intro zI_2 (And.intro underlying2 (And.intro tI_3 (And.intro zI_3 (And.intro underlying3 (And.intro tI_4 (And.intro zI_4 (And.intro underlying4 (And.intro tI_5 (And.intro zI_5 (And.intro underlying5 (And.intro tI_6 (And.intro zI_6 (And.intro underlying6 (And.intro tI_7 (And.intro zI_7 (And.intro fI_7_0 (And.intro fI_7_1 (And.intro fI_7_2 (And.intro fI_7_3 (And.intro bI_7 (And.intro tI_8 (And.intro zI_8 (And.intro fI_8_0 (And.intro fI_8_1 (And.intro fI_8_2 (And.intro fI_8_3 (And.intro bI_8 (And.intro tI_9 (And.intro zI_9 (And.intro underlying9 (And.intro tI_10 (And.intro zI_10 (And.intro underlying10 (And.intro tI_61 (And.intro zI_61 (And.intro eI_61 (And.intro eB_61 (And.intro eZ_61 underlying61)))))))))))))))))))))))))))))))))))))))
theorem c_l5Holds (s : ByteArray) (a b : Int) (st : zy7) : zq7 prog 75 [.str s, .int .i64 a, .int .i64 b] st (fun r st' => r = .bool (cmpH s a b) ∧ st' = st) := by
  unfold cmpH
  refine zw6 [1000000] func75 ntmps75 rfl rfl (by kernel_rfl) (by decide +kernel) (by show 3 ≤ _; decide +kernel) ?_
  intro _
  simp -implicitDefEqProofs only [evE, ↓evZ2, ↓evZ3, ↓Int.cast_ofNat_Int, implies_true, zy2, aFn, List.contains, List.elem, zq3, zy1, zq2, sub, zx3, zw2, zw3, zy3, gd, zq1, zw0, zq0, zx0, zx2, zx1, zy0, zw1, List.range', ↓reduceIte, reduceCtorEq, Nat.reduceEqDiff, Nat.reduceAdd, Nat.reduceLeDiff, Nat.reduceMul, Nat.reduceLT, Nat.reduceBEq, Int.reduceEq, tf_B6_75]
  refine zq4 (fun h6 => ?_) (fun h6 => ?_)
  · simp -implicitDefEqProofs only [evE, ↓evZ2, ↓evZ3, ↓Int.cast_ofNat_Int, implies_true, zy2, aFn, List.contains, List.elem, zq3, zy1, zq2, sub, zx3, zw2, zw3, zy3, gd, zq1, zw0, zq0, zx0, zx2, zx1, zy0, zw1, List.range', ↓reduceIte, reduceCtorEq, Nat.reduceEqDiff, Nat.reduceAdd, Nat.reduceLeDiff, Nat.reduceMul, Nat.reduceLT, Nat.reduceBEq, Int.reduceEq, tf_B6_75]
    rw [if_pos (by simpa using h6)]
  rw [if_neg (by simpa using h6)]
  simp -implicitDefEqProofs only [evE, ↓evZ2, ↓evZ3, ↓Int.cast_ofNat_Int, implies_true, zy2, aFn, List.contains, List.elem, zq3, zy1, zq2, sub, zx3, zw2, zw3, zy3, gd, zq1, zw0, zq0, zx0, zx2, zx1, zy0, zw1, List.range', ↓reduceIte, reduceCtorEq, Nat.reduceEqDiff, Nat.reduceAdd, Nat.reduceLeDiff, Nat.reduceMul, Nat.reduceLT, Nat.reduceBEq, Int.reduceEq, tf_B6_75]
  refine zq4 (fun h7 => ?_) (fun h7 => ?_)
  · simp -implicitDefEqProofs only [evE, ↓evZ2, ↓evZ3, ↓Int.cast_ofNat_Int, implies_true, zy2, aFn, List.contains, List.elem, zq3, zy1, zq2, sub, zx3, zw2, zw3, zy3, gd, zq1, zw0, zq0, zx0, zx2, zx1, zy0, zw1, List.range', ↓reduceIte, reduceCtorEq, Nat.reduceEqDiff, Nat.reduceAdd, Nat.reduceLeDiff, Nat.reduceMul, Nat.reduceLT, Nat.reduceBEq, Int.reduceEq, tf_B6_75]
    rw [if_pos (by simpa using h7)]
  rw [if_neg (by simpa using h7)]
  simp -implicitDefEqProofs only [evE, ↓evZ2, ↓evZ3, ↓Int.cast_ofNat_Int, implies_true, zy2, aFn, List.contains, List.elem, zq3, zy1, zq2, sub, zx3, zw2, zw3, zy3, gd, zq1, zw0, zq0, zx0, zx2, zx1, zy0, zw1, List.range', ↓reduceIte, reduceCtorEq, Nat.reduceEqDiff, Nat.reduceAdd, Nat.reduceLeDiff, Nat.reduceMul, Nat.reduceLT, Nat.reduceBEq, Int.reduceEq, tf_B6_75]
  refine zq4 (fun h8 => ?_) (fun h8 => ?_)
  · simp -implicitDefEqProofs only [evE, ↓evZ2, ↓evZ3, ↓Int.cast_ofNat_Int, implies_true, zy2, aFn, List.contains, List.elem, zq3, zy1, zq2, sub, zx3, zw2, zw3, zy3, gd, zq1, zw0, zq0, zx0, zx2, zx1, zy0, zw1, List.range', ↓reduceIte, reduceCtorEq, Nat.reduceEqDiff, Nat.reduceAdd, Nat.reduceLeDiff, Nat.reduceMul, Nat.reduceLT, Nat.reduceBEq, Int.reduceEq, tf_B6_75]
    rw [if_pos (by simpa using h8)]
  rw [if_neg (by simpa using h8)]
  simp -implicitDefEqProofs only [evE, ↓evZ2, ↓evZ3, ↓Int.cast_ofNat_Int, implies_true, zy2, aFn, List.contains, List.elem, zq3, zy1, zq2, sub, zx3, zw2, zw3, zy3, gd, zq1, zw0, zq0, zx0, zx2, zx1, zy0, zw1, List.range', ↓reduceIte, reduceCtorEq, Nat.reduceEqDiff, Nat.reduceAdd, Nat.reduceLeDiff, Nat.reduceMul, Nat.reduceLT, Nat.reduceBEq, Int.reduceEq, tf_B6_75]
  refine zq4 (fun h9 => ?_) (fun h9 => ?_)
  · simp -implicitDefEqProofs only [evE, ↓evZ2, ↓evZ3, ↓Int.cast_ofNat_Int, implies_true, zy2, aFn, List.contains, List.elem, zq3, zy1, zq2, sub, zx3, zw2, zw3, zy3, gd, zq1, zw0, zq0, zx0, zx2, zx1, zy0, zw1, List.range', ↓reduceIte, reduceCtorEq, Nat.reduceEqDiff, Nat.reduceAdd, Nat.reduceLeDiff, Nat.reduceMul, Nat.reduceLT, Nat.reduceBEq, Int.reduceEq, tf_B6_75]
    rw [if_pos (by simpa using h9)]
  rw [if_neg (by simpa using h9)]
  simp -implicitDefEqProofs only [evE, ↓evZ2, ↓evZ3, ↓Int.cast_ofNat_Int, implies_true, zy2, aFn, List.contains, List.elem, zq3, zy1, zq2, sub, zx3, zw2, zw3, zy3, gd, zq1, zw0, zq0, zx0, zx2, zx1, zy0, zw1, List.range', ↓reduceIte, reduceCtorEq, Nat.reduceEqDiff, Nat.reduceAdd, Nat.reduceLeDiff, Nat.reduceMul, Nat.reduceLT, Nat.reduceBEq, Int.reduceEq, tf_B6_75]
abbrev tf_B6_58 := And.intro tI_2 (And.intro zI_2 (And.intro underlying2 (And.intro tI_3 (And.intro zI_3 (And.intro underlying3 (And.intro tI_4 (And.intro zI_4 (And.intro underlying4 (And.intro tI_5 (And.intro zI_5 (And.intro underlying5 (And.intro tI_6 (And.intro zI_6 (And.intro underlying6 (And.intro tI_7 (And.intro zI_7 (And.intro fI_7_0 (And.intro fI_7_1 (And.intro fI_7_2 (And.intro fI_7_3 (And.intro bI_7 (And.intro tI_9 (And.intro zI_9 (And.intro underlying9 (And.intro tI_11 (And.intro zI_11 (And.intro underlying11 (And.intro tI_12 (And.intro zI_12 (And.intro underlying12 (And.intro tI_22 (And.intro zI_22 (And.intro eI_22 (And.intro eB_22 (And.intro eZ_22 (And.intro underlying22 (And.intro tI_23 (And.intro zI_23 (And.intro eI_23 (And.intro eB_23 (And.intro eZ_23 (And.intro underlying23 (And.intro tI_25 (And.intro zI_25 (And.intro fI_25_0 (And.intro fI_25_1 (And.intro fI_25_2 (And.intro fI_25_3 (And.intro bI_25 (And.intro tI_34 (And.intro zI_34 (And.intro tI_110 (And.intro zI_110 (And.intro underlying110 (And.intro tI_114 (And.intro zI_114 underlying114))))))))))))))))))))))))))))))))))))))))))))))))))))))))
theorem c_l5Compare (n : Int) (s : ByteArray) (x y : Tm) {N : Int} (hx : OkV N x) (hy : OkV N y) (st : zy7) : zq7 prog 58 [(Tm.mk 3 n s [x, y]).av] st (fun r st' => r = .int .i64 (cmpC s x y) ∧ st' = st) := by
  have hat0 : aIndexAddr prog 23 (.slice [x.av, y.av]) (.int .i64 0) = some (.pptr x.av) := ev_at (av := Tm.av) (l := [x, y]) (i := 0) eI_23 rfl (Tm.av_width x)
  have hat1 : aIndexAddr prog 23 (.slice [x.av, y.av]) (.int .i64 1) = some (.pptr y.av) := ev_at (av := Tm.av) (l := [x, y]) (i := 1) eI_23 rfl (Tm.av_width y)
  have hax := fun st => c_l5Arith x st hx
  have hay := fun st => c_l5Arith y st hy
  unfold cmpC both
  simp only [Tm.av_mk, List.map_cons, List.map_nil]
  refine zw6 [1000000] func58 ntmps58 rfl rfl (by kernel_rfl) (by decide +kernel) (by show 1 ≤ _; decide +kernel) ?_
  intro _
  simp -implicitDefEqProofs only [hat0, hat1, Tm.av_agg, Tm.av_width, evE, ↓evZ2, ↓evZ3, ↓Int.cast_ofNat_Int, implies_true, zy2, aFn, List.contains, List.elem, zq3, zy1, zq2, sub, zx3, zw2, zw3, zy3, gd, zq1, zw0, zq0, zx0, zx2, zx1, zy0, zw1, List.range', ↓reduceIte, reduceCtorEq, Nat.reduceEqDiff, Nat.reduceAdd, Nat.reduceLeDiff, Nat.reduceMul, Nat.reduceLT, Nat.reduceBEq, Int.reduceEq, tf_B6_58]
  refine (hax _).to ?_
  generalize x.ev.1 = a at *
  generalize x.ev.2 = ca at *
  generalize y.ev.1 = b at *
  generalize y.ev.2 = cb at *
  simp -implicitDefEqProofs only [hat0, hat1, Tm.av_agg, Tm.av_width, evE, ↓evZ2, ↓evZ3, ↓Int.cast_ofNat_Int, implies_true, zy2, aFn, List.contains, List.elem, zq3, zy1, zq2, sub, zx3, zw2, zw3, zy3, gd, zq1, zw0, zq0, zx0, zx2, zx1, zy0, zw1, List.range', ↓reduceIte, reduceCtorEq, Nat.reduceEqDiff, Nat.reduceAdd, Nat.reduceLeDiff, Nat.reduceMul, Nat.reduceLT, Nat.reduceBEq, Int.reduceEq, tf_B6_58]
  refine zq4 (fun h4 => ?_) (fun h4 => ?_)
  · simp -implicitDefEqProofs only [hat0, hat1, Tm.av_agg, Tm.av_width, evE, ↓evZ2, ↓evZ3, ↓Int.cast_ofNat_Int, implies_true, zy2, aFn, List.contains, List.elem, zq3, zy1, zq2, sub, zx3, zw2, zw3, zy3, gd, zq1, zw0, zq0, zx0, zx2, zx1, zy0, zw1, List.range', ↓reduceIte, reduceCtorEq, Nat.reduceEqDiff, Nat.reduceAdd, Nat.reduceLeDiff, Nat.reduceMul, Nat.reduceLT, Nat.reduceBEq, Int.reduceEq, tf_B6_58]
    have h4' : ca ≠ 0 := by simpa using h4
    rw [if_pos h4']
  have h4' : ca = 0 := by simpa using h4
  subst h4'
  rw [if_neg (by simp)]
  simp -implicitDefEqProofs only [hat0, hat1, Tm.av_agg, Tm.av_width, evE, ↓evZ2, ↓evZ3, ↓Int.cast_ofNat_Int, implies_true, zy2, aFn, List.contains, List.elem, zq3, zy1, zq2, sub, zx3, zw2, zw3, zy3, gd, zq1, zw0, zq0, zx0, zx2, zx1, zy0, zw1, List.range', ↓reduceIte, reduceCtorEq, Nat.reduceEqDiff, Nat.reduceAdd, Nat.reduceLeDiff, Nat.reduceMul, Nat.reduceLT, Nat.reduceBEq, Int.reduceEq, tf_B6_58]
  refine (hay _).to ?_
  simp -implicitDefEqProofs only [hat0, hat1, Tm.av_agg, Tm.av_width, evE, ↓evZ2, ↓evZ3, ↓Int.cast_ofNat_Int, implies_true, zy2, aFn, List.contains, List.elem, zq3, zy1, zq2, sub, zx3, zw2, zw3, zy3, gd, zq1, zw0, zq0, zx0, zx2, zx1, zy0, zw1, List.range', ↓reduceIte, reduceCtorEq, Nat.reduceEqDiff, Nat.reduceAdd, Nat.reduceLeDiff, Nat.reduceMul, Nat.reduceLT, Nat.reduceBEq, Int.reduceEq, tf_B6_58]
  refine zq4 (fun h5 => ?_) (fun h5 => ?_)
  · simp -implicitDefEqProofs only [hat0, hat1, Tm.av_agg, Tm.av_width, evE, ↓evZ2, ↓evZ3, ↓Int.cast_ofNat_Int, implies_true, zy2, aFn, List.contains, List.elem, zq3, zy1, zq2, sub, zx3, zw2, zw3, zy3, gd, zq1, zw0, zq0, zx0, zx2, zx1, zy0, zw1, List.range', ↓reduceIte, reduceCtorEq, Nat.reduceEqDiff, Nat.reduceAdd, Nat.reduceLeDiff, Nat.reduceMul, Nat.reduceLT, Nat.reduceBEq, Int.reduceEq, tf_B6_58]
    have h5' : cb ≠ 0 := by simpa using h5
    rw [if_pos h5']
  have h5' : cb = 0 := by simpa using h5
  subst h5'
  rw [if_neg (by simp)]
  simp -implicitDefEqProofs only [hat0, hat1, Tm.av_agg, Tm.av_width, evE, ↓evZ2, ↓evZ3, ↓Int.cast_ofNat_Int, implies_true, zy2, aFn, List.contains, List.elem, zq3, zy1, zq2, sub, zx3, zw2, zw3, zy3, gd, zq1, zw0, zq0, zx0, zx2, zx1, zy0, zw1, List.range', ↓reduceIte, reduceCtorEq, Nat.reduceEqDiff, Nat.reduceAdd, Nat.reduceLeDiff, Nat.reduceMul, Nat.reduceLT, Nat.reduceBEq, Int.reduceEq, tf_B6_58]
  refine (c_l5Holds s a b _).to ?_
  simp -implicitDefEqProofs only [hat0, hat1, Tm.av_agg, Tm.av_width, evE, ↓evZ2, ↓evZ3, ↓Int.cast_ofNat_Int, implies_true, zy2, aFn, List.contains, List.elem, zq3, zy1, zq2, sub, zx3, zw2, zw3, zy3, gd, zq1, zw0, zq0, zx0, zx2, zx1, zy0, zw1, List.range', ↓reduceIte, reduceCtorEq, Nat.reduceEqDiff, Nat.reduceAdd, Nat.reduceLeDiff, Nat.reduceMul, Nat.reduceLT, Nat.reduceBEq, Int.reduceEq, tf_B6_58]
  refine (c_l5Code _ _).to ?_
  simp -implicitDefEqProofs only [hat0, hat1, Tm.av_agg, Tm.av_width, evE, ↓evZ2, ↓evZ3, ↓Int.cast_ofNat_Int, implies_true, zy2, aFn, List.contains, List.elem, zq3, zy1, zq2, sub, zx3, zw2, zw3, zy3, gd, zq1, zw0, zq0, zx0, zx2, zx1, zy0, zw1, List.range', ↓reduceIte, reduceCtorEq, Nat.reduceEqDiff, Nat.reduceAdd, Nat.reduceLeDiff, Nat.reduceMul, Nat.reduceLT, Nat.reduceBEq, Int.reduceEq, tf_B6_58]
abbrev tf_B6_59 := And.intro tI_2 (And.intro zI_2 (And.intro underlying2 (And.intro tI_3 (And.intro zI_3 (And.intro underlying3 (And.intro tI_4 (And.intro zI_4 (And.intro underlying4 (And.intro tI_5 (And.intro zI_5 (And.intro underlying5 (And.intro tI_6 (And.intro zI_6 (And.intro underlying6 (And.intro tI_7 (And.intro zI_7 (And.intro fI_7_0 (And.intro fI_7_1 (And.intro fI_7_2 (And.intro fI_7_3 (And.intro bI_7 (And.intro tI_8 (And.intro zI_8 (And.intro fI_8_0 (And.intro fI_8_1 (And.intro fI_8_2 (And.intro fI_8_3 (And.intro bI_8 (And.intro tI_9 (And.intro zI_9 (And.intro underlying9 (And.intro tI_14 (And.intro zI_14 (And.intro fI_14_0 (And.intro fI_14_1 (And.intro bI_14 (And.intro tI_15 (And.intro zI_15 (And.intro tI_21 (And.intro zI_21 (And.intro underlying21 (And.intro tI_23 (And.intro zI_23 (And.intro eI_23 (And.intro eB_23 (And.intro eZ_23 (And.intro underlying23 (And.intro tI_25 (And.intro zI_25 (And.intro fI_25_0 (And.intro fI_25_1 (And.intro fI_25_2 (And.intro fI_25_3 (And.intro bI_25 (And.intro tI_27 (And.intro zI_27 (And.intro eI_27 (And.intro eB_27 (And.intro eZ_27 (And.intro underlying27 (And.intro tI_34 (And.intro zI_34 (And.intro tI_97 (And.intro zI_97 (And.intro underlying97 (And.intro tI_105 (And.intro zI_105 (And.intro bI_105 (And.intro tI_110 (And.intro zI_110 (And.intro underlying110 (And.intro tI_114 (And.intro zI_114 (And.intro underlying114 (And.intro tI_116 (And.intro zI_116 (And.intro fI_116_0 (And.intro fI_116_1 (And.intro fI_116_2 (And.intro fI_116_3 (And.intro fI_116_4 (And.intro fI_116_5 (And.intro fI_116_6 (And.intro fI_116_7 (And.intro fI_116_8 (And.intro fI_116_9 (And.intro fI_116_10 bI_116)))))))))))))))))))))))))))))))))))))))))))))))))))))))))))))))))))))))))))))))))))))))
theorem c_l5Test (n : Int) (s : ByteArray) (x : Tm) (hs : s = ⟨#[118, 97, 114]⟩ ∨ s = ⟨#[110, 111, 110, 118, 97, 114]⟩ ∨ s = ⟨#[97, 116, 111, 109]⟩ ∨ s = ⟨#[105, 110, 116]⟩) (st : zy7) :
    zq7 prog 59 [(Tm.mk 3 n s [x]).av] st (fun r st' => r = .int .i64 (codeB (testB s x)) ∧ st' = st) := by
  obtain ⟨xk, xn, xs, xt⟩ := x
  have hat0 : aIndexAddr prog 23 (.slice [(Tm.mk xk xn xs xt).av]) (.int .i64 0) = some (.pptr (Tm.mk xk xn xs xt).av) := ev_at (av := Tm.av) (l := [Tm.mk xk xn xs xt]) (i := 0) eI_23 rfl (Tm.av_width _)
  simp only [Tm.av_mk] at hat0
  simp only [List.map_cons, List.map_nil, Tm.av_mk]
  refine zw6 [1000000] func59 ntmps59 rfl rfl (by kernel_rfl) (by decide +kernel) (by show 1 ≤ _; decide +kernel) ?_
  intro _
  simp -implicitDefEqProofs only [hat0, evE, ↓evZ2, ↓evZ3, ↓Int.cast_ofNat_Int, implies_true, zy2, aFn, List.contains, List.elem, zq3, zy1, zq2, sub, zx3, zw2, zw3, zy3, gd, zq1, zw0, zq0, zx0, zx2, zx1, zy0, zw1, List.range', ↓reduceIte, reduceCtorEq, Nat.reduceEqDiff, Nat.reduceAdd, Nat.reduceLeDiff, Nat.reduceMul, Nat.reduceLT, Nat.reduceBEq, Int.reduceEq, tf_B6_59]
  refine zq4 (fun h => ?_) (fun h => ?_)
  · have hs' : s = ⟨#[118, 97, 114]⟩ := by simpa using h
    subst hs'
    simp -implicitDefEqProofs only [hat0, evE, ↓evZ2, ↓evZ3, ↓Int.cast_ofNat_Int, implies_true, zy2, aFn, List.contains, List.elem, zq3, zy1, zq2, sub, zx3, zw2, zw3, zy3, gd, zq1, zw0, zq0, zx0, zx2, zx1, zy0, zw1, List.range', ↓reduceIte, reduceCtorEq, Nat.reduceEqDiff, Nat.reduceAdd, Nat.reduceLeDiff, Nat.reduceMul, Nat.reduceLT, Nat.reduceBEq, Int.reduceEq, tf_B6_59]
    refine (c_l5Code _ _).to ?_
    simp -implicitDefEqProofs only [hat0, evE, ↓evZ2, ↓evZ3, ↓Int.cast_ofNat_Int, implies_true, zy2, aFn, List.contains, List.elem, zq3, zy1, zq2, sub, zx3, zw2, zw3, zy3, gd, zq1, zw0, zq0, zx0, zx2, zx1, zy0, zw1, List.range', ↓reduceIte, reduceCtorEq, Nat.reduceEqDiff, Nat.reduceAdd, Nat.reduceLeDiff, Nat.reduceMul, Nat.reduceLT, Nat.reduceBEq, Int.reduceEq, tf_B6_59]
    rfl
  have h1 : s ≠ ⟨#[118, 97, 114]⟩ := by simpa using h
  simp -implicitDefEqProofs only [hat0, evE, ↓evZ2, ↓evZ3, ↓Int.cast_ofNat_Int, implies_true, zy2, aFn, List.contains, List.elem, zq3, zy1, zq2, sub, zx3, zw2, zw3, zy3, gd, zq1, zw0, zq0, zx0, zx2, zx1, zy0, zw1, List.range', ↓reduceIte, reduceCtorEq, Nat.reduceEqDiff, Nat.reduceAdd, Nat.reduceLeDiff, Nat.reduceMul, Nat.reduceLT, Nat.reduceBEq, Int.reduceEq, tf_B6_59]
  refine zq4 (fun h => ?_) (fun h => ?_)
  · have hs' : s = ⟨#[110, 111, 110, 118, 97, 114]⟩ := by simpa using h
    subst hs'
    simp -implicitDefEqProofs only [hat0, evE, ↓evZ2, ↓evZ3, ↓Int.cast_ofNat_Int, implies_true, zy2, aFn, List.contains, List.elem, zq3, zy1, zq2, sub, zx3, zw2, zw3, zy3, gd, zq1, zw0, zq0, zx0, zx2, zx1, zy0, zw1, List.range', ↓reduceIte, reduceCtorEq, Nat.reduceEqDiff, Nat.reduceAdd, Nat.reduceLeDiff, Nat.reduceMul, Nat.reduceLT, Nat.reduceBEq, Int.reduceEq, tf_B6_59]
    refine (c_l5Code _ _).to ?_
    simp -implicitDefEqProofs only [hat0, evE, ↓evZ2, ↓evZ3, ↓Int.cast_ofNat_Int, implies_true, zy2, aFn, List.contains, List.elem, zq3, zy1, zq2, sub, zx3, zw2, zw3, zy3, gd, zq1, zw0, zq0, zx0, zx2, zx1, zy0, zw1, List.range', ↓reduceIte, reduceCtorEq, Nat.reduceEqDiff, Nat.reduceAdd, Nat.reduceLeDiff, Nat.reduceMul, Nat.reduceLT, Nat.reduceBEq, Int.reduceEq, tf_B6_59]
    rfl
  have h2 : s ≠ ⟨#[110, 111, 110, 118, 97, 114]⟩ := by simpa using h
  simp -implicitDefEqProofs only [hat0, evE, ↓evZ2, ↓evZ3, ↓Int.cast_ofNat_Int, implies_true, zy2, aFn, List.contains, List.elem, zq3, zy1, zq2, sub, zx3, zw2, zw3, zy3, gd, zq1, zw0, zq0, zx0, zx2, zx1, zy0, zw1, List.range', ↓reduceIte, reduceCtorEq, Nat.reduceEqDiff, Nat.reduceAdd, Nat.reduceLeDiff, Nat.reduceMul, Nat.reduceLT, Nat.reduceBEq, Int.reduceEq, tf_B6_59]
  refine zq4 (fun h => ?_) (fun h => ?_)
  · have hs' : s = ⟨#[105, 110, 116]⟩ := by simpa using h
    subst hs'
    simp -implicitDefEqProofs only [hat0, evE, ↓evZ2, ↓evZ3, ↓Int.cast_ofNat_Int, implies_true, zy2, aFn, List.contains, List.elem, zq3, zy1, zq2, sub, zx3, zw2, zw3, zy3, gd, zq1, zw0, zq0, zx0, zx2, zx1, zy0, zw1, List.range', ↓reduceIte, reduceCtorEq, Nat.reduceEqDiff, Nat.reduceAdd, Nat.reduceLeDiff, Nat.reduceMul, Nat.reduceLT, Nat.reduceBEq, Int.reduceEq, tf_B6_59]
    refine (c_l5Code _ _).to ?_
    simp -implicitDefEqProofs only [hat0, evE, ↓evZ2, ↓evZ3, ↓Int.cast_ofNat_Int, implies_true, zy2, aFn, List.contains, List.elem, zq3, zy1, zq2, sub, zx3, zw2, zw3, zy3, gd, zq1, zw0, zq0, zx0, zx2, zx1, zy0, zw1, List.range', ↓reduceIte, reduceCtorEq, Nat.reduceEqDiff, Nat.reduceAdd, Nat.reduceLeDiff, Nat.reduceMul, Nat.reduceLT, Nat.reduceBEq, Int.reduceEq, tf_B6_59]
    rfl
  have h3 : s ≠ ⟨#[105, 110, 116]⟩ := by simpa using h
  have hs' : s = ⟨#[97, 116, 111, 109]⟩ := by simpa [h1, h2, h3] using hs
  subst hs'
  have et : testB ⟨#[97, 116, 111, 109]⟩ (Tm.mk xk xn xs xt) = (decide (xk = 3) && decide ((xt.length : Int) = 0)) := rfl
  rw [et]
  simp -implicitDefEqProofs only [List.length_map, evE, ↓evZ2, ↓evZ3, ↓Int.cast_ofNat_Int, implies_true, zy2, aFn, List.contains, List.elem, zq3, zy1, zq2, sub, zx3, zw2, zw3, zy3, gd, zq1, zw0, zq0, zx0, zx2, zx1, zy0, zw1, List.range', ↓reduceIte, reduceCtorEq, Nat.reduceEqDiff, Nat.reduceAdd, Nat.reduceLeDiff, Nat.reduceMul, Nat.reduceLT, Nat.reduceBEq, Int.reduceEq, tf_B6_59]
  refine zx4 (fun h4 => ?_) (fun h4 => ?_)
  · simp -implicitDefEqProofs only [h4, List.length_map, evE, ↓evZ2, ↓evZ3, ↓Int.cast_ofNat_Int, implies_true, zy2, aFn, List.contains, List.elem, zq3, zy1, zq2, sub, zx3, zw2, zw3, zy3, gd, zq1, zw0, zq0, zx0, zx2, zx1, zy0, zw1, List.range', ↓reduceIte, reduceCtorEq, Nat.reduceEqDiff, Nat.reduceAdd, Nat.reduceLeDiff, Nat.reduceMul, Nat.reduceLT, Nat.reduceBEq, Int.reduceEq, tf_B6_59]
    refine (c_l5Code _ _).to ?_
    simp -implicitDefEqProofs only [List.length_map, evE, ↓evZ2, ↓evZ3, ↓Int.cast_ofNat_Int, implies_true, zy2, aFn, List.contains, List.elem, zq3, zy1, zq2, sub, zx3, zw2, zw3, zy3, gd, zq1, zw0, zq0, zx0, zx2, zx1, zy0, zw1, List.range', ↓reduceIte, reduceCtorEq, Nat.reduceEqDiff, Nat.reduceAdd, Nat.reduceLeDiff, Nat.reduceMul, Nat.reduceLT, Nat.reduceBEq, Int.reduceEq, tf_B6_59]
  · simp -implicitDefEqProofs only [h4, List.length_map, evE, ↓evZ2, ↓evZ3, ↓Int.cast_ofNat_Int, implies_true, zy2, aFn, List.contains, List.elem, zq3, zy1, zq2, sub, zx3, zw2, zw3, zy3, gd, zq1, zw0, zq0, zx0, zx2, zx1, zy0, zw1, List.range', ↓reduceIte, reduceCtorEq, Nat.reduceEqDiff, Nat.reduceAdd, Nat.reduceLeDiff, Nat.reduceMul, Nat.reduceLT, Nat.reduceBEq, Int.reduceEq, tf_B6_59]
    refine (c_l5Code _ _).to ?_
    simp -implicitDefEqProofs only [List.length_map, evE, ↓evZ2, ↓evZ3, ↓Int.cast_ofNat_Int, implies_true, zy2, aFn, List.contains, List.elem, zq3, zy1, zq2, sub, zx3, zw2, zw3, zy3, gd, zq1, zw0, zq0, zx0, zx2, zx1, zy0, zw1, List.range', ↓reduceIte, reduceCtorEq, Nat.reduceEqDiff, Nat.reduceAdd, Nat.reduceLeDiff, Nat.reduceMul, Nat.reduceLT, Nat.reduceBEq, Int.reduceEq, tf_B6_59]
    simp at h4; simp [h4]
end Go.AW
