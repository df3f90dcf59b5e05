import Derived.Test.YtcndknlbedcimaaGreatDoorSoll
import Derived.Test.YtcndknlbedcimaaGreatDoorSolq
import Derived.Test.YtcndknlbedcimaaGreatDoorSolg
import Derived.ProofKit
import Derived.Test.YtcndknlbedcimaaGreatDoorSoli

namespace Go.AW
open Go.Proofs.Tryz
set_option linter.unusedSimpArgs false
set_option maxRecDepth 100000
abbrev tf_C1_14 := zi tI_3 (zi zI_3 (zi underlying3 (zi tI_4 (zi zI_4 (zi underlying4 (zi tI_29 (zi zI_29 (zi eI_29 (zi eB_29 (zi eZ_29 (zi underlying29 (zi tI_75 (zi zI_75 (zi fI_75_0 (zi fI_75_1 bI_75)))))))))))))))
theorem c_eqClauseS (l l' : List Cl) (st : zy7) (hc : ∀ x ∈ l, ∀ (y : Cl) (st : zy7), zq7 prog 44 [clAv x, clAv y] st (fun r st' => r = .bool (clSame x y) ∧ st' = st)) :
 zq7 prog 14 [.slice (l.map clAv), .slice (l'.map clAv)] st (fun r st' => r = .bool (eqL clSame l l') ∧ st' = st) := by
 refine zw6 [] func14 ntmps14 rfl rfl (by kernel_rfl) (by decide +kernel) (by show 2 ≤ _; decide +kernel) ?_
 simp only [fitsL, AV.fits, and_true, List.length_map]
 intro ⟨⟨hl, _⟩, ⟨hl', _⟩⟩
 simp -implicitDefEqProofs only [List.length_map, evF, ↓evZ, implies_true, seval, tf_C1_14]
 refine ⟨fun h4 => ?_, fun h4 => ?_⟩
 · simp -implicitDefEqProofs only [evF, ↓evZ, implies_true, seval, tf_C1_14]
   simp only [Bool.not_eq_true', decide_eq_false_iff_not] at h4
   rw [eqL_len _ (show l.length ≠ l'.length by omega)]
 simp -implicitDefEqProofs only [evF, ↓evZ, implies_true, seval, tf_C1_14]
 simp only [Bool.not_eq_false', decide_eq_true_eq] at h4
 have h4' : l.length = l'.length := by omega
 refine zy6 (α := Nat) [] (fun i => i ≤ l.length ∧ ∀ (j : Nat) (x y : Cl), j < i → l[j]? = some x → l'[j]? = some y → clSame x y = true)
  (fun i => [(0, .slice (l.map clAv)), (1, .slice (l'.map clAv)), (5, .int .i64 i)]) (fun _ => st) (fun i => l.length - i) (by decide +kernel)
  ⟨0, ⟨by omega, by intro j x y h; omega⟩, zx7.mk (by simp -implicitDefEqProofs only [evF, ↓evZ, implies_true, seval, tf_C1_14])⟩ ?_
 intro i ⟨hi, hall⟩
 simp -implicitDefEqProofs only [List.length_map, evF, ↓evZ, implies_true, seval, tf_C1_14]
 refine ⟨fun h5 => ?_, fun h5 => ?_⟩
 case refine_2 =>
  simp -implicitDefEqProofs only [evF, ↓evZ, implies_true, seval, tf_C1_14]
  simp only [decide_eq_false_iff_not, Int.ofNat_lt] at h5
  rw [eqL_all _ h4' (fun j x y h6 h7 => hall j x y (by have := (List.getElem?_eq_some_iff.1 h6).1; omega) h6 h7)]
 simp only [decide_eq_true_eq, Int.ofNat_lt] at h5
 obtain ⟨x, hx⟩ : ∃ x, l[i]? = some x := ⟨_, List.getElem?_eq_getElem h5⟩
 obtain ⟨y, hy⟩ : ∃ y, l'[i]? = some y := ⟨_, List.getElem?_eq_getElem (h4' ▸ h5)⟩
 simp -implicitDefEqProofs only [evF, ↓evZ, implies_true, seval, tf_C1_14]
 refine arun_drawP mixed (by decide +kernel) (by decide +kernel) ?_
 simp -implicitDefEqProofs only [ev_at (av := clAv) eI_29 hx (clAv_width x), ev_at (av := clAv) eI_29 hy (clAv_width y), clAv_agg, clAv_width, evF, ↓evZ, implies_true, seval, tf_C1_14]
 refine (hc x (List.mem_of_getElem? hx) y st).to ?_
 simp -implicitDefEqProofs only [evF, ↓evZ, implies_true, seval, tf_C1_14]
 refine ⟨fun h6 => ?_, fun h6 => ?_⟩
 · simp -implicitDefEqProofs only [evF, ↓evZ, implies_true, seval, tf_C1_14]
   have h7 : clSame x y = false := by simpa using h6
   rw [eqL_at _ i x y hx hy h7]
 have h7 : clSame x y = true := by simpa using h6
 simp -implicitDefEqProofs only [evF, ↓evZ, implies_true, seval, tf_C1_14]
 refine ⟨i + 1, by omega, ⟨by omega, fun j u v hj hu hv => ?_⟩, zx7.mk ?_⟩
 · rcases Nat.lt_or_ge j i with h8 | h8
   · exact hall j u v h8 hu hv
   · obtain rfl : j = i := by omega
     rw [hx] at hu; rw [hy] at hv; cases hu; cases hv; exact h7
 · have := wrap64 (n := (i : Int) + 1) (by omega) (by omega)
   simp -implicitDefEqProofs only [this, evF, ↓evZ, implies_true, seval, tf_C1_14]
abbrev tf_C1_7 := zi tI_3 (zi zI_3 (zi underlying3 (zi tI_22 (zi zI_22 (zi eI_22 (zi eB_22 (zi eZ_22 (zi underlying22 (zi tI_70 (zi zI_70 (zi fI_70_0 (zi fI_70_1 bI_70))))))))))))
theorem c_szClauseS (l : List Cl) (left : Int) (st : zy7) (h0 : 0 ≤ left) (h1 : left ≤ 1048576) (hc : ∀ x ∈ l, ∀ (left : Int) (st : zy7), 0 ≤ left → left ≤ 1048576 → zq7 prog 35 [clAv x, .int .i64 left] st (fun r st' => r = .int .i64 (szR left (clSz x)) ∧ st' = st)) :
 zq7 prog 7 [.slice (l.map clAv), .int .i64 left] st (fun r st' => r = .int .i64 (szR left (l.length + sumL clSz l)) ∧ st' = st) := by
 refine zw6 [] func7 ntmps7 rfl rfl (by kernel_rfl) (by decide +kernel) (by show 2 ≤ _; decide +kernel) ?_
 simp only [fitsL, AV.fits, and_true, List.length_map]
 intro ⟨hl, _⟩
 have hw := wrap64 (n := left - (l.length : Int)) (by omega) (by omega)
 simp -implicitDefEqProofs only [List.length_map, hw, evF, ↓evZ, implies_true, seval, tf_C1_7]
 refine ⟨fun h4 => ?_, fun h4 => ?_⟩
 · simp -implicitDefEqProofs only [evF, ↓evZ, implies_true, seval, tf_C1_7]
   simp only [decide_eq_true_eq] at h4
   simp only [szR]
   rw [if_pos (by omega)]
 simp only [decide_eq_false_iff_not] at h4
 simp -implicitDefEqProofs only [evF, ↓evZ, implies_true, seval, tf_C1_7]
 refine zy6 (α := Nat) [] (fun i => i ≤ l.length ∧ ((l.length + sumL clSz (l.take i) : Nat) : Int) ≤ left)
  (fun i => [(0, .slice (l.map clAv)), (1, .int .i64 (left - ((l.length + sumL clSz (l.take i) : Nat) : Int))), (5, .int .i64 i)]) (fun _ => st) (fun i => l.length - i) (by decide +kernel)
  ⟨0, ⟨by omega, by simp only [List.take_zero, sumL]; omega⟩, zx7.mk (by simp -implicitDefEqProofs only [sumL, Nat.add_zero, evF, ↓evZ, implies_true, seval, tf_C1_7])⟩ ?_
 intro i ⟨hi, hle⟩
 simp -implicitDefEqProofs only [List.length_map, evF, ↓evZ, implies_true, seval, tf_C1_7]
 refine ⟨fun h5 => ?_, fun h5 => ?_⟩
 case refine_2 =>
  simp -implicitDefEqProofs only [evF, ↓evZ, implies_true, seval, tf_C1_7]
  simp only [decide_eq_false_iff_not, Int.ofNat_lt] at h5
  rw [show i = l.length by omega, List.take_length] at hle ⊢
  rw [szR_pos (by omega)]
 simp only [decide_eq_true_eq, Int.ofNat_lt] at h5
 obtain ⟨x, hx⟩ : ∃ x, l[i]? = some x := ⟨_, List.getElem?_eq_getElem h5⟩
 simp -implicitDefEqProofs only [ev_at (av := clAv) eI_22 hx (clAv_width x), clAv_agg, clAv_width, evF, ↓evZ, implies_true, seval, tf_C1_7]
 refine (hc x (List.mem_of_getElem? hx) _ st (by omega) (by omega)).to ?_
 have hs := sumL_take clSz hx
 simp -implicitDefEqProofs only [evF, ↓evZ, implies_true, seval, tf_C1_7]
 refine ⟨fun h6 => ?_, fun h6 => ?_⟩
 · simp -implicitDefEqProofs only [evF, ↓evZ, implies_true, seval, tf_C1_7]
   simp only [decide_eq_true_eq, szR_neg] at h6
   simp only [szR]
   rw [if_pos (by omega)]
 simp only [decide_eq_false_iff_not, szR_neg] at h6
 rw [szR_pos h6]
 simp -implicitDefEqProofs only [evF, ↓evZ, implies_true, seval, tf_C1_7]
 refine ⟨i + 1, by omega, ⟨by omega, by omega⟩, zx7.mk ?_⟩
 · have := wrap64 (n := (i : Int) + 1) (by omega) (by omega)
   have e : (left - ((l.length + sumL clSz (l.take (i + 1)) : Nat) : Int)) = left - ((l.length + sumL clSz (l.take i) : Nat) : Int) - ((clSz x : Nat) : Int) := by omega
   simp -implicitDefEqProofs only [this, e, evF, ↓evZ, implies_true, seval, tf_C1_7]
abbrev tf_C1_10 := zi tI_3 (zi zI_3 (zi underlying3 (zi tI_22 (zi zI_22 (zi eI_22 (zi eB_22 (zi eZ_22 (zi underlying22 (zi tI_29 (zi zI_29 (zi eI_29 (zi eB_29 (zi eZ_29 (zi underlying29 (zi tI_70 (zi zI_70 (zi fI_70_0 (zi fI_70_1 (zi bI_70 (zi tI_75 (zi zI_75 (zi fI_75_0 (zi fI_75_1 bI_75)))))))))))))))))))))))
theorem o_toClauseS (l : List Cl) (st : zy7) (hb : l.length ≤ 1048576) (hc : ∀ x ∈ l, ∀ (st : zy7), zq7 prog 40 [clAv x] st (Made st (clAv x))) :
 zq7 prog 10 [.slice (l.map clAv)] st (Made st (.slice (l.map clAv))) := by
 refine zw6 [] func10 ntmps10 rfl rfl (by kernel_rfl) (by decide +kernel) (by show 1 ≤ _; decide +kernel) ?_
 intro _
 simp -implicitDefEqProofs only [List.length_map, aMakeSlice, evF, ↓evZ, implies_true, seval, tf_C1_10]
 refine ⟨by omega, by omega, by omega, ?_⟩
 intro b hn
 rw [Int.toNat_natCast, madeAV_eq _ (by simp)]
 refine zy5 (σ := List AV × List Nat × zy7) [] [0, 2, 3] l (fun i p => OwnTo (l.map clAv) [.int .i64 0, .int .i64 0, .str ⟨#[]⟩, .fslice [], .fslice []] b st i p) (fun i _ => [(4, .int .i64 i)]) (fun _ p => p.2.2) (by decide +kernel)
  ⟨([], [], _), ?_, zx7.mk (by simp -implicitDefEqProofs only [evF, ↓evZ, implies_true, seval, tf_C1_10])⟩ (fun i x p hx hlt hlt' hdr hinv => ?_) (fun p hge hinv => ?_)
 · exact OwnTo.start hn (by rw [List.length_map])
 case refine_3 =>
  obtain ⟨os, bs, s⟩ := p
  simp -implicitDefEqProofs only [List.length_map, hge, evF, ↓evZ, implies_true, seval, tf_C1_10]
  exact hinv.done (List.length_map _) (fun e he => by simp only [List.mem_map] at he; obtain ⟨t, _, rfl⟩ := he; exact clAv_width t)
 obtain ⟨os, bs, s⟩ := p
 simp -implicitDefEqProofs only [List.length_map, hlt', ev_at (av := clAv) eI_22 hx (clAv_width x), clAv_agg, clAv_width, evF, ↓evZ, implies_true, seval, tf_C1_10]
 refine (hc x (List.mem_of_getElem? hx) _).mono ?_
 rintro r s2 hmade
 obtain ⟨A, B, hs2, hA, hrw, hrs, hnext⟩ := hinv.step hmade (show (l.map clAv)[i]? = some (clAv x) by rw [List.getElem?_map, hx]; rfl) (clAv_width x) (fun e he => by simp only [List.mem_map] at he; obtain ⟨t, _, rfl⟩ := he; exact clAv_width t) rfl (clAv_store x) (.inl (clAv_agg x))
 have hat := held_at (b := b) (len := l.length) (w := 5) (i := i) eI_29 hlt
 obtain ⟨hp1, hp2⟩ := partE (B := B) (C := [.int .i64 0, .int .i64 0, .str ⟨#[]⟩, .fslice [], .fslice []]) (x := r.cells) hA rfl hrw
 have hw := wrap64 (n := (i : Int) + 1) (by omega) (by omega)
 simp -implicitDefEqProofs only [hat, hs2, hrw, hrs, hp1, hw, evF, ↓evZ, implies_true, seval, tf_C1_10]
 refine ⟨hp2, ?_⟩
 exact ⟨_, hnext, zx7.mk (by simp -implicitDefEqProofs only [evF, ↓evZ, implies_true, seval, tf_C1_10])⟩
abbrev tf_C1_44 := zi tI_4 (zi zI_4 (zi underlying4 (zi tI_31 (zi zI_31 (zi eI_31 (zi eB_31 (zi eZ_31 (zi underlying31 (zi tI_42 (zi zI_42 (zi fI_42_0 (zi fI_42_1 (zi fI_42_2 (zi fI_42_3 (zi bI_42 (zi tI_75 (zi zI_75 (zi fI_75_0 (zi fI_75_1 bI_75)))))))))))))))))))
theorem c_eqClause (x y : Cl) (st : zy7) : zq7 prog 44 [clAv x, clAv y] st (fun r st' => r = .bool (clSame x y) ∧ st' = st) := by
 obtain ⟨⟨k, n, s, ts⟩, b⟩ := x
 obtain ⟨⟨k', n', s', ts'⟩, b'⟩ := y
 have hg := fun st => c_eqTerm (.mk k n s ts) (.mk k' n' s' ts') st
 simp only [Tm.av_mk] at hg
 have hc := fun st => c_eqTermS b b' st fun x _ y st => c_eqTerm x y st
 simp only [clAv_mk]
 refine zw6 [1000000] func44 ntmps44 rfl rfl (by kernel_rfl) (by decide +kernel) (by show 2 ≤ _; decide +kernel) ?_
 intro _
 simp -implicitDefEqProofs only [evF, ↓evZ, implies_true, seval, tf_C1_44]
 refine (hg _).to ?_
 simp only [clSame]
 simp -implicitDefEqProofs only [evF, ↓evZ, implies_true, seval, tf_C1_44]
 refine zq4 (fun h1 => ?_) (fun h1 => ?_)
 · simp -implicitDefEqProofs only [evF, ↓evZ, implies_true, seval, tf_C1_44]
   simp only [Bool.not_eq_true'] at h1
   simp [h1]
 simp only [Bool.not_eq_false'] at h1
 simp -implicitDefEqProofs only [evF, ↓evZ, implies_true, seval, tf_C1_44]
 refine (hc _).to ?_
 simp -implicitDefEqProofs only [evF, ↓evZ, implies_true, seval, tf_C1_44]
 refine zq4 (fun h2 => ?_) (fun h2 => ?_) <;> simp -implicitDefEqProofs only [evF, ↓evZ, implies_true, seval, tf_C1_44]
 · simp only [Bool.not_eq_true'] at h2
   simp [h2]
 · simp only [Bool.not_eq_false'] at h2
   simp [h1, h2]
abbrev tf_C1_35 := zi tI_3 (zi zI_3 (zi underlying3 (zi tI_23 (zi zI_23 (zi eI_23 (zi eB_23 (zi eZ_23 (zi underlying23 (zi tI_68 (zi zI_68 (zi fI_68_0 (zi fI_68_1 (zi fI_68_2 (zi fI_68_3 (zi bI_68 (zi tI_70 (zi zI_70 (zi fI_70_0 (zi fI_70_1 bI_70)))))))))))))))))))
theorem c_szClause (c : Cl) (left : Int) (st : zy7) (h0 : 0 ≤ left) (h1 : left ≤ 1048576) : zq7 prog 35 [clAv c, .int .i64 left] st (fun r st' => r = .int .i64 (szR left (clSz c)) ∧ st' = st) := by
 obtain ⟨⟨k, n, s, ts⟩, b⟩ := c
 have hg := fun st => c_szTerm (.mk k n s ts) left st h0 h1
 simp only [Tm.av_mk] at hg
 simp only [clAv_mk, clSz]
 generalize (Tm.mk k n s ts).sz = z at hg ⊢
 have hsl : szL b = b.length + sumL Tm.sz b := rfl
 refine zw6 [1000000] func35 ntmps35 rfl rfl (by kernel_rfl) (by decide +kernel) (by show 2 ≤ _; decide +kernel) ?_
 intro _
 simp -implicitDefEqProofs only [evF, ↓evZ, implies_true, seval, tf_C1_35]
 refine (hg _).to ?_
 simp -implicitDefEqProofs only [evF, ↓evZ, implies_true, seval, tf_C1_35]
 refine zq4 (fun h2 => ?_) (fun h2 => ?_)
 · simp -implicitDefEqProofs only [evF, ↓evZ, implies_true, seval, tf_C1_35]
   simp only [decide_eq_true_eq, szR_neg] at h2
   simp only [szR]
   rw [if_pos (by omega)]
 simp only [decide_eq_false_iff_not, szR_neg] at h2
 rw [szR_pos h2]
 simp -implicitDefEqProofs only [evF, ↓evZ, implies_true, seval, tf_C1_35]
 refine (c_szTermS' b _ _ (by omega) (by omega)).to ?_
 simp -implicitDefEqProofs only [evF, ↓evZ, implies_true, seval, tf_C1_35]
 refine zq4 (fun h3 => ?_) (fun h3 => ?_)
 · simp -implicitDefEqProofs only [evF, ↓evZ, implies_true, seval, tf_C1_35]
   simp only [decide_eq_true_eq, szR_neg] at h3
   simp only [szR]
   rw [if_pos (by omega)]
 · simp -implicitDefEqProofs only [evF, ↓evZ, implies_true, seval, tf_C1_35]
   simp only [decide_eq_false_iff_not, szR_neg] at h3
   rw [szR_pos h3, szR_pos (by omega)]
   congr 1
   omega
abbrev tf_C1_40 := zi tI_23 (zi zI_23 (zi eI_23 (zi eB_23 (zi eZ_23 (zi underlying23 (zi tI_31 (zi zI_31 (zi eI_31 (zi eB_31 (zi eZ_31 (zi underlying31 (zi tI_42 (zi zI_42 (zi fI_42_0 (zi fI_42_1 (zi fI_42_2 (zi fI_42_3 (zi bI_42 (zi tI_68 (zi zI_68 (zi fI_68_0 (zi fI_68_1 (zi fI_68_2 (zi fI_68_3 (zi bI_68 (zi tI_70 (zi zI_70 (zi fI_70_0 (zi fI_70_1 (zi bI_70 (zi tI_75 (zi zI_75 (zi fI_75_0 (zi fI_75_1 bI_75))))))))))))))))))))))))))))))))))
theorem o_toClause (c : Cl) (st : zy7) (hb : clSz c ≤ 1048576) : zq7 prog 40 [clAv c] st (Made st (clAv c)) := by
 obtain ⟨⟨k, n, s, ts⟩, bd⟩ := c
 unfold clSz at hb
 simp only at hb
 have hc := fun st => o_toTermS' bd st (by unfold szL; omega)
 have hg := fun st => o_toTerm (.mk k n s ts) st (by omega)
 simp only [Tm.av_mk] at hg
 simp only [clAv_mk]
 refine zq7.madeJ ?_
 refine zw6 [1000000] func40 ntmps40 rfl rfl (by kernel_rfl) (by decide +kernel) (by show 1 ≤ _; decide +kernel) ?_
 intro _
 simp -implicitDefEqProofs only [zy4, evF, ↓evZ, implies_true, seval, tf_C1_40]
 intro b hb1 b2 hb2
 have hne : b2 ≠ b := by rintro rfl; rw [zy7.upd_same] at hb2; cases hb2
 have hn2 : st b2 = none := by rw [zy7.upd_ne st _ hne] at hb2; exact hb2
 refine (hg _).mono ?_
 rintro q0 s2 ⟨bs, m1, m2, m3, m4⟩
 rw [← Tm.av_mk] at m3
 obtain ⟨q, rfl, m3'⟩ := own_Tm.1 m3
 have hbb : b ∉ bs := fun h => by have := m2 b h; simp [su_eq, hne, hne.symm] at this
 have hbb2 : b2 ∉ bs := fun h => by have := m2 b2 h; simp [su_eq] at this
 have e1 := m4 b hbb
 have e2 := m4 b2 hbb2
 simp only [su_eq, hne, hne.symm, if_true, if_false] at e1 e2
 obtain ⟨hqc, hqs, hqa, hqw, hqj⟩ := Own.one' m3'
 simp -implicitDefEqProofs only [zy4, su_eq, hne, hne.symm, e1, e2, hqc, hqs, hqa, hqw, hqj, evF, ↓evZ, implies_true, seval, tf_C1_40]
 refine (hc _).mono ?_
 rintro r s3 ⟨cs, n1, n2, n3, n4⟩
 have hcb2 : b2 ∉ cs := fun h => by have := n2 b2 h; simp [su_eq] at this
 have hcb : b ∉ cs := fun h => by have := n2 b h; simp [su_eq, hne, hne.symm, e1] at this
 have f1 := n4 b hcb
 have f2 := n4 b2 hcb2
 simp only [su_eq, hne, hne.symm, if_true, if_false, e1] at f1 f2
 obtain ⟨hrc, hrs, hra, hrw, hrj⟩ := Own.one' n3
 simp -implicitDefEqProofs only [zy7.upd_upd, zy4, su_eq, hne, hne.symm, f1, f2, hqc, hqs, hqa, hqw, hqj, hrc, hrs, hra, hrw, hrj, evF, ↓evZ, implies_true, seval, tf_C1_40]
 have hsome := (Own.solid _ _ _ m3').2.2
 have hdis : ∀ x ∈ bs, x ∉ cs := fun x hx hx' => by
  obtain ⟨u, e, _⟩ := hsome x hx
  have := n2 x hx'
  have h2 : x ≠ b2 := fun e => hbb2 (e ▸ hx)
  simp only [su_eq, h2, if_false] at this
  rw [e] at this; cases this
 have hcs : ∀ x ∈ cs, x ≠ b ∧ x ≠ b2 := fun x hx => ⟨fun e => hcb (e ▸ hx), fun e => hcb2 (e ▸ hx)⟩
 have hbs : ∀ x ∈ bs, x ≠ b ∧ x ≠ b2 := fun x hx => ⟨fun e => hbb (e ▸ hx), fun e => hbb2 (e ▸ hx)⟩
 refine ⟨[b, b2], bs ++ cs, List.nodup_append.2 ⟨m1, n1, fun x hx y hy e => hdis x hx (e ▸ hy)⟩, fun x hx => ?_, ?_, ?_, ?_⟩
 · rcases List.mem_append.1 hx with hx | hx
   · have := m2 x hx
     simpa [su_eq, hbs x hx] using this
   · have := n2 x hx
     simp only [su_eq, (hcs x hx).2, if_false] at this
     by_cases hxb : x ∈ bs
     · exact absurd hx (hdis x hxb)
     · rw [m4 x hxb] at this
       simpa [su_eq, hcs x hx] using this
 · simp [hb1, hn2, hbb, hbb2, hcb, hcb2]
 · rw [← clAv_mk]
   refine own_Cl.2 ⟨q, bs, r, cs, rfl, rfl, Own.keep _ _ _ (fun x hx => ?_) m3', Own.keep _ _ _ (fun x hx => ?_) n3⟩
   · simp only [su_eq, (hbs x hx).1, (hbs x hx).2, if_false]
     rw [n4 x (hdis x hx)]
     simp only [su_eq, (hbs x hx).2, if_false]
   · simp only [su_eq, (hcs x hx).1, (hcs x hx).2, if_false]
 · intro x hx hd
   simp only [List.mem_cons, List.not_mem_nil, or_false, not_or] at hd
   simp only [List.mem_append, not_or] at hx
   simp only [su_eq, hd.1, hd.2, if_false]
   rw [n4 x hx.2]
   simp only [su_eq, hd.2, if_false]
   rw [m4 x hx.1]
   simp only [su_eq, hd.1, hd.2, if_false]
theorem c_eqClauseS' (l : List Cl) (st : zy7) : zq7 prog 14 [.slice (l.map clAv), .slice (l.map clAv)] st (fun r st' => r = .bool true ∧ st' = st) := by
 refine (c_eqClauseS l l st fun x _ y st => c_eqClause x y st).mono ?_
 rintro _ _ ⟨rfl, rfl⟩
 refine ⟨?_, rfl⟩
 have : ∀ l : List Cl, eqL clSame l l = true := by
  intro l
  induction l with
  | nil => rfl
  | cons x l ih => simp [eqL, clSame_refl, ih]
 rw [this]
abbrev szC (l : List Cl) : Nat := l.length + sumL clSz l
theorem c_szClauseS' (l : List Cl) (left : Int) (st : zy7) (h0 : 0 ≤ left) (h1 : left ≤ 1048576) : zq7 prog 7 [.slice (l.map clAv), .int .i64 left] st (fun r st' => r = .int .i64 (szR left (szC l)) ∧ st' = st) :=
 c_szClauseS l left st h0 h1 fun x _ left st h0 h1 => c_szClause x left st h0 h1
theorem o_toClauseS' (l : List Cl) (st : zy7) (hb : szC l ≤ 1048576) : zq7 prog 10 [.slice (l.map clAv)] st (Made st (.slice (l.map clAv))) :=
 o_toClauseS l st (by unfold szC at hb; omega) fun x hx st => o_toClause x st (by have := sumL_mem (f := clSz) hx; unfold szC at hb; omega)
theorem c_toClauseS' (l : List Cl) (st : zy7) (hb : szC l ≤ 1048576) : zq7 prog 10 [.slice (l.map clAv)] st (fun r st' => r = .slice (l.map clAv) ∧ st' = st) := (o_toClauseS' l st hb).made
theorem clMks_le (c : Cl) : clMks c ≤ 3 + 3 * clSz c := by
 obtain ⟨⟨k, n, s, ts⟩, b⟩ := c
 have h1 := Tm.mks_le (.mk k n s ts)
 have h2 := mks_szL b
 rw [Tm.mks_mk] at h1
 rw [clMks_mk]
 have hsl : szL b = b.length + sumL Tm.sz b := rfl
 have hcs : clSz (.mk k n s ts, b) = (Tm.mk k n s ts).sz + (b.length + sumL Tm.sz b) := rfl
 omega
theorem clMks_szC : ∀ l : List Cl, sumL clMks l ≤ 3 * szC l
 | [] => by simp [sumL]
 | x :: l => by
  have h1 := clMks_le x
  have h2 := clMks_szC l
  simp only [sumL, szC, List.length_cons] at h2 ⊢
  omega
end Go.AW


namespace Go.AW
open Go.Proofs.Tryz
set_option linter.unusedSimpArgs false
set_option maxRecDepth 100000
abbrev tf_C2_16 := zi tI_3 (zi zI_3 (zi underlying3 (zi tI_9 (zi zI_9 (zi underlying9 (zi tI_29 (zi zI_29 (zi eI_29 (zi eB_29 (zi eZ_29 (zi underlying29 (zi tI_31 (zi zI_31 (zi eI_31 (zi eB_31 (zi eZ_31 (zi underlying31 (zi tI_42 (zi zI_42 (zi fI_42_0 (zi fI_42_1 (zi fI_42_2 (zi fI_42_3 (zi bI_42 (zi tI_75 (zi zI_75 (zi fI_75_0 (zi fI_75_1 bI_75))))))))))))))))))))))))))))
theorem c_markClauseS (l : List Cl) (j : Int) (o : AV) (bs : List Nat) (st : zy7) (hO : Own st (.slice (l.map clAv)) o bs) (hnd : bs.Nodup) (hj0 : 0 ≤ j) (hj1 : j + sumL clMks l ≤ 1099511627776) :
 zq7 prog 16 [o, .int .i64 j] st (Marked st (.slice ((markL clMark clMks l j).map clAv)) o bs (j + sumL clMks l)) := by
 obtain ⟨hlen, haL⟩ := hO.len
 rw [List.length_map] at hlen
 have haL := haL prog 29 _ underlying29
 rw [List.length_map] at haL
 refine zw6 [1000000] func16 ntmps16 rfl rfl (by kernel_rfl) (by decide +kernel) (by show 2 ≤ _; decide +kernel) ?_
 simp only [fitsL]
 intro ⟨hf, _⟩
 have hl := hlen hf
 clear hf hlen
 simp -implicitDefEqProofs only [evF, ↓evZ, implies_true, seval, tf_C2_16]
 refine zy5 (σ := List Cl × Int × zy7) [1000000] [0, 4] l
  (fun i p => p.1.length = i ∧ p.1 ++ markL clMark clMks (l.drop i) p.2.1 = markL clMark clMks l j ∧ 0 ≤ p.2.1 ∧ p.2.1 + sumL clMks (l.drop i) = j + sumL clMks l ∧ Own p.2.2 (.slice ((p.1 ++ l.drop i).map clAv)) o bs ∧ ∀ q, q ∉ bs → p.2.2 q = st q)
  (fun i p => [(1, .int .i64 p.2.1), (5, .int .i64 i)]) (fun _ p => p.2.2) (by decide +kernel)
  ⟨([], j, st), ⟨rfl, rfl, hj0, rfl, hO, fun _ _ => rfl⟩, zx7.mk (by simp -implicitDefEqProofs only [evF, ↓evZ, implies_true, seval, tf_C2_16])⟩ (fun i x p hx hlt hlt' hdr hinv => ?_) (fun p hge hinv => ?_)
 case refine_2 =>
  obtain ⟨done, k, s⟩ := p
  obtain ⟨i1, i2, i3, i4, i5, i6⟩ := hinv
  simp only at i1 i2 i3 i4 i5 i6
  simp -implicitDefEqProofs only [haL, hge, evF, ↓evZ, implies_true, seval, tf_C2_16]
  simp only [List.drop_length, markL, List.append_nil, sumL] at i2 i4 i5
  exact ⟨by rw [← i4]; simp, by rw [← i2]; exact i5, i6⟩
 obtain ⟨done, k, s⟩ := p
 obtain ⟨i1, i2, i3, i4, i5, i6⟩ := hinv
 simp only at i1 i2 i3 i4 i5 i6
 rw [hdr] at i2 i4 i5
 obtain ⟨⟨xk, xn, xs, xts⟩, xb⟩ := x
 simp only [sumL, clMks_mk] at i4
 have hget := marked_get (av := clAv) (done := done) (x := (.mk xk xn xs xts, xb)) (rest := l.drop (i + 1))
 obtain ⟨b, bs', w, A, oe, bo, B, rfl, hbs, hsb, hA, hoe, hbo, hbn, hsub, hw, hi, hfoc⟩ := i5.focus hnd hget
 rw [clAv_width] at hw
 subst hw
 rw [i1] at hA
 obtain ⟨q, b1, q', b2, rfl, rfl, hq, hq'⟩ := own_Cl.1 hoe
 rw [List.nodup_append] at hbo
 obtain ⟨hb1n, hb2n, hdis⟩ := hbo
 simp only [List.mem_append, not_or] at hbn
 have hlen2 : ((done ++ ((Tm.mk xk xn xs xts, xb) : Cl) :: l.drop (i + 1)).map clAv).length = l.length := by
  rw [List.length_map, List.length_append, List.length_cons, List.length_drop, i1]; omega
 rw [hlen2] at haL hfoc ⊢
 have hat := held_at (P := prog) (b := b) (len := l.length) (w := 5) (i := i) eI_29 hlt
 have hw1 := wrap64 (n := k + 1) (by omega) (by omega)
 have hw2 := wrap64 (n := k + 1 + 1) (by omega) (by omega)
 have hw3 := wrap64 (n := k + 1 + 1 + 1) (by omega) (by omega)
 have hw4 := wrap64 (n := (i : Int) + 1) (by omega) (by omega)
 obtain ⟨e1, e2, e3, e4, e5, e6⟩ := midE (B := B) hA
 simp -implicitDefEqProofs only [haL, hlt', hat, hsb, hw1, hw2, hw3, e1, e2, e3, e4, e5, e6, Nat.add_zero, List.set_cons_zero, List.set_cons_succ, zy7.upd_upd, evF, ↓evZ, implies_true, seval, tf_C2_16]
 refine (c_markText (k + 1 + 1) _ (by omega)).to ?_
 simp -implicitDefEqProofs only [hat, e1, e2, e3, e4, e5, e6, Nat.add_zero, List.set_cons_zero, List.set_cons_succ, zy7.upd_upd, hw1, hw2, hw3, evF, ↓evZ, implies_true, seval, tf_C2_16]
 have hqs : ∀ (o : AO), Own (s.upd b o) (.slice (xts.map Tm.av)) q b1 := fun o => Own.keep _ _ _ (fun x hx => zy7.upd_ne _ _ (fun e => hbn.1 (e ▸ hx))) hq
 have hqa : q.isAgg = false := (Own.shape hq).1
 have hqa' : q'.isAgg = false := (Own.shape hq').1
 simp -implicitDefEqProofs only [hqa, evF, ↓evZ, implies_true, seval, tf_C2_16]
 refine (c_markTermS xts (k + 1 + 1 + 1) q b1 _ (hqs _) hb1n (by omega) (by omega)).mono ?_
 rintro _ s2 ⟨rfl, hq2, hk2⟩
 have f1 := hk2 b hbn.1
 rw [zy7.upd_same] at f1
 simp -implicitDefEqProofs only [hat, f1, e1, e2, e3, e4, e5, e6, Nat.add_zero, List.set_cons_zero, List.set_cons_succ, zy7.upd_upd, hqa', evF, ↓evZ, implies_true, seval, tf_C2_16]
 have hqs' : Own s2 (.slice (xb.map Tm.av)) q' b2 := Own.keep _ _ _ (fun x hx => by
  have hxb : x ≠ b := fun e => hbn.2 (e ▸ hx)
  rw [hk2 x (fun h => hdis x h x hx rfl), zy7.upd_ne _ _ hxb]) hq'
 refine (c_markTermS xb _ q' b2 _ hqs' hb2n (by omega) (by omega)).mono ?_
 rintro _ s3 ⟨rfl, hq3, hk3⟩
 have hm : k + ((3 + sumL Tm.mks xts + sumL Tm.mks xb : Nat) : Int) = k + 1 + 1 + 1 + (sumL Tm.mks xts : Int) + (sumL Tm.mks xb : Int) := by omega
 simp -implicitDefEqProofs only [hw4, evF, ↓evZ, implies_true, seval, tf_C2_16]
 refine ⟨(done ++ [clMark (.mk xk xn xs xts, xb) k], k + 1 + 1 + 1 + (sumL Tm.mks xts : Int) + (sumL Tm.mks xb : Int), s3), ⟨?_, ?_, ?_, ?_, ?_, ?_⟩, zx7.mk (by simp -implicitDefEqProofs only [evF, ↓evZ, implies_true, seval, tf_C2_16])⟩
 · simp [i1]
 · simp only [markL, clMks_mk] at i2
   rw [hm] at i2
   rw [← i2]
   simp
 · simp only; omega
 · simp only; omega
 · have := hfoc s3 (clAv (clMark (.mk xk xn xs xts, xb) k)) (.agg [.int .i64 k, .int .i64 (k + 1), .str (mt (k + 1 + 1)), q, q']) (clAv_width _)
    (fun x hx hxb hxo => by
     simp only [List.mem_append, not_or] at hxo
     rw [hk3 x hxo.2, hk2 x hxo.1, zy7.upd_ne _ _ hxb])
    (by rw [hk3 b hbn.2, f1]; rfl)
    (by
     unfold clMark
     exact own_Cl.2 ⟨q, b1, q', b2, rfl, rfl, Own.keep _ _ _ (fun x hx => hk3 x (fun h => hdis x hx x h rfl)) hq2, hq3⟩)
   rw [marked_set] at this
   exact this
 · intro x hx
   have hxb : x ≠ b := fun e => hx (by rw [hbs]; simp [e])
   have hx1 : x ∉ b1 := fun e => hx (hsub x (by simp [e]))
   have hx2 : x ∉ b2 := fun e => hx (hsub x (by simp [e]))
   show s3 x = st x
   rw [hk3 x hx2, hk2 x hx1, zy7.upd_ne _ _ hxb, i6 x hx]
end Go.AW


namespace Go.AW
open Go.Proofs.Tryz
set_option linter.unusedSimpArgs false
set_option maxRecDepth 100000
theorem ansAv_width (l : List Tm) : (ansAv l).width = 1 := rfl
theorem ansAv_agg (l : List Tm) : (ansAv l).isAgg = true := rfl
abbrev tf_T8_43 := zi tI_4 (zi zI_4 (zi underlying4 (zi tI_31 (zi zI_31 (zi eI_31 (zi eB_31 (zi eZ_31 (zi underlying31 (zi tI_51 (zi zI_51 (zi fI_51_0 bI_51)))))))))))
theorem c_eqAnswer2 (l l' : List Tm) (st : zy7) : zq7 prog 43 [ansAv l, ansAv l'] st (fun r st' => r = .bool (eqL Tm.same l l') ∧ st' = st) := by
 refine zw6 [1000000] func43 ntmps43 rfl rfl (by kernel_rfl) (by decide +kernel) (by show 2 ≤ _; decide +kernel) ?_
 intro _
 simp -implicitDefEqProofs only [ansAv, evF, ↓evZ, implies_true, seval, tf_T8_43]
 refine (c_eqTermS l l' _ fun x _ y st => c_eqTerm x y st).to ?_
 simp -implicitDefEqProofs only [ansAv, evF, ↓evZ, implies_true, seval, tf_T8_43]
 refine zq4 (fun h => ?_) (fun h => ?_)
 · simp -implicitDefEqProofs only [ansAv, evF, ↓evZ, implies_true, seval, tf_T8_43]
   simp at h; simp [h]
 · simp -implicitDefEqProofs only [ansAv, evF, ↓evZ, implies_true, seval, tf_T8_43]
   simp at h; simp [h]
abbrev tf_T8_13 := zi tI_3 (zi zI_3 (zi underlying3 (zi tI_4 (zi zI_4 (zi underlying4 (zi tI_26 (zi zI_26 (zi eI_26 (zi eB_26 (zi eZ_26 (zi underlying26 (zi tI_51 (zi zI_51 (zi fI_51_0 bI_51))))))))))))))
theorem c_eqAnswerS (l l' : List (List Tm)) (st : zy7) (hc : ∀ x ∈ l, ∀ (y : (List Tm)) (st : zy7), zq7 prog 43 [ansAv x, ansAv y] st (fun r st' => r = .bool ((eqL Tm.same) x y) ∧ st' = st)) :
 zq7 prog 13 [.slice (l.map ansAv), .slice (l'.map ansAv)] st (fun r st' => r = .bool (eqL (eqL Tm.same) l l') ∧ st' = st) := by
 refine zw6 [] func13 ntmps13 rfl rfl (by kernel_rfl) (by decide +kernel) (by show 2 ≤ _; decide +kernel) ?_
 simp only [fitsL, AV.fits, and_true, List.length_map]
 intro ⟨⟨hl, _⟩, ⟨hl', _⟩⟩
 simp -implicitDefEqProofs only [List.length_map, evF, ↓evZ, implies_true, seval, tf_T8_13]
 refine ⟨fun h4 => ?_, fun h4 => ?_⟩
 · simp -implicitDefEqProofs only [evF, ↓evZ, implies_true, seval, tf_T8_13]
   simp only [Bool.not_eq_true', decide_eq_false_iff_not] at h4
   rw [eqL_len _ (show l.length ≠ l'.length by omega)]
 simp -implicitDefEqProofs only [evF, ↓evZ, implies_true, seval, tf_T8_13]
 simp only [Bool.not_eq_false', decide_eq_true_eq] at h4
 have h4' : l.length = l'.length := by omega
 refine zy6 (α := Nat) [] (fun i => i ≤ l.length ∧ ∀ (j : Nat) (x y : (List Tm)), j < i → l[j]? = some x → l'[j]? = some y → (eqL Tm.same) x y = true)
  (fun i => [(0, .slice (l.map ansAv)), (1, .slice (l'.map ansAv)), (5, .int .i64 i)]) (fun _ => st) (fun i => l.length - i) (by decide +kernel)
  ⟨0, ⟨by omega, by intro j x y h; omega⟩, zx7.mk (by simp -implicitDefEqProofs only [evF, ↓evZ, implies_true, seval, tf_T8_13])⟩ ?_
 intro i ⟨hi, hall⟩
 simp -implicitDefEqProofs only [List.length_map, evF, ↓evZ, implies_true, seval, tf_T8_13]
 refine ⟨fun h5 => ?_, fun h5 => ?_⟩
 case refine_2 =>
  simp -implicitDefEqProofs only [evF, ↓evZ, implies_true, seval, tf_T8_13]
  simp only [decide_eq_false_iff_not, Int.ofNat_lt] at h5
  rw [eqL_all _ h4' (fun j x y h6 h7 => hall j x y (by have := (List.getElem?_eq_some_iff.1 h6).1; omega) h6 h7)]
 simp only [decide_eq_true_eq, Int.ofNat_lt] at h5
 obtain ⟨x, hx⟩ : ∃ x, l[i]? = some x := ⟨_, List.getElem?_eq_getElem h5⟩
 obtain ⟨y, hy⟩ : ∃ y, l'[i]? = some y := ⟨_, List.getElem?_eq_getElem (h4' ▸ h5)⟩
 simp -implicitDefEqProofs only [evF, ↓evZ, implies_true, seval, tf_T8_13]
 refine arun_drawP mixed (by decide +kernel) (by decide +kernel) ?_
 simp -implicitDefEqProofs only [ev_at (av := ansAv) eI_26 hx (ansAv_width x), ev_at (av := ansAv) eI_26 hy (ansAv_width y), ansAv_agg, ansAv_width, evF, ↓evZ, implies_true, seval, tf_T8_13]
 refine (hc x (List.mem_of_getElem? hx) y st).to ?_
 simp -implicitDefEqProofs only [evF, ↓evZ, implies_true, seval, tf_T8_13]
 refine ⟨fun h6 => ?_, fun h6 => ?_⟩
 · simp -implicitDefEqProofs only [evF, ↓evZ, implies_true, seval, tf_T8_13]
   have h7 : (eqL Tm.same) x y = false := by simpa using h6
   rw [eqL_at _ i x y hx hy h7]
 have h7 : (eqL Tm.same) x y = true := by simpa using h6
 simp -implicitDefEqProofs only [evF, ↓evZ, implies_true, seval, tf_T8_13]
 refine ⟨i + 1, by omega, ⟨by omega, fun j u v hj hu hv => ?_⟩, zx7.mk ?_⟩
 · rcases Nat.lt_or_ge j i with h8 | h8
   · exact hall j u v h8 hu hv
   · obtain rfl : j = i := by omega
     rw [hx] at hu; rw [hy] at hv; cases hu; cases hv; exact h7
 · have := wrap64 (n := (i : Int) + 1) (by omega) (by omega)
   simp -implicitDefEqProofs only [this, evF, ↓evZ, implies_true, seval, tf_T8_13]
theorem c_eqAnswerS' (l : List (List Tm)) (st : zy7) : zq7 prog 13 [.slice (l.map ansAv), .slice (l.map ansAv)] st (fun r st' => r = .bool true ∧ st' = st) := by
 refine (c_eqAnswerS l l st fun x _ y st => c_eqAnswer2 x y st).mono ?_
 rintro _ _ ⟨rfl, rfl⟩
 refine ⟨?_, rfl⟩
 rw [(eqL_eq (fun x _ y => eqL_eq (fun x _ y => Tm.same_eq x y))).2 rfl]
def ansMks (l : List Tm) : Nat := sumL Tm.mks l
def ansMark (l : List Tm) (j : Int) : List Tm := markL Tm.mark Tm.mks l j
abbrev tf_T8_18 := zi tI_3 (zi zI_3 (zi underlying3 (zi tI_26 (zi zI_26 (zi eI_26 (zi eB_26 (zi eZ_26 (zi underlying26 (zi tI_31 (zi zI_31 (zi eI_31 (zi eB_31 (zi eZ_31 (zi underlying31 (zi tI_51 (zi zI_51 (zi fI_51_0 bI_51)))))))))))))))))
theorem c_markAnswerS (l : List (List Tm)) (j : Int) (o : AV) (bs : List Nat) (st : zy7) (hO : Own st (.slice (l.map ansAv)) o bs) (hnd : bs.Nodup) (hj0 : 0 ≤ j) (hj1 : j + sumL ansMks l ≤ 1099511627776) :
 zq7 prog 18 [o, .int .i64 j] st (Marked st (.slice ((markL ansMark ansMks l j).map ansAv)) o bs (j + sumL ansMks l)) := by
 obtain ⟨hlen, haL⟩ := hO.len
 rw [List.length_map] at hlen
 have haL := haL prog 26 _ underlying26
 rw [List.length_map] at haL
 refine zw6 [1000000] func18 ntmps18 rfl rfl (by kernel_rfl) (by decide +kernel) (by show 2 ≤ _; decide +kernel) ?_
 simp only [fitsL]
 intro ⟨hf, _⟩
 have hl := hlen hf
 clear hf hlen
 simp -implicitDefEqProofs only [evF, ↓evZ, implies_true, seval, tf_T8_18]
 refine zy5 (σ := List (List Tm) × Int × zy7) [1000000] [0, 4] l
  (fun i p => p.1.length = i ∧ p.1 ++ markL ansMark ansMks (l.drop i) p.2.1 = markL ansMark ansMks l j ∧ 0 ≤ p.2.1 ∧ p.2.1 + sumL ansMks (l.drop i) = j + sumL ansMks l ∧ Own p.2.2 (.slice ((p.1 ++ l.drop i).map ansAv)) o bs ∧ ∀ q, q ∉ bs → p.2.2 q = st q)
  (fun i p => [(1, .int .i64 p.2.1), (5, .int .i64 i)]) (fun _ p => p.2.2) (by decide +kernel)
  ⟨([], j, st), ⟨rfl, rfl, hj0, rfl, hO, fun _ _ => rfl⟩, zx7.mk (by simp -implicitDefEqProofs only [evF, ↓evZ, implies_true, seval, tf_T8_18])⟩ (fun i x p hx hlt hlt' hdr hinv => ?_) (fun p hge hinv => ?_)
 case refine_2 =>
  obtain ⟨done, k, s⟩ := p
  obtain ⟨i1, i2, i3, i4, i5, i6⟩ := hinv
  simp only at i1 i2 i3 i4 i5 i6
  simp -implicitDefEqProofs only [haL, hge, evF, ↓evZ, implies_true, seval, tf_T8_18]
  simp only [List.drop_length, markL, List.append_nil, sumL] at i2 i4 i5
  exact ⟨by rw [← i4]; simp, by rw [← i2]; exact i5, i6⟩
 obtain ⟨done, k, s⟩ := p
 obtain ⟨i1, i2, i3, i4, i5, i6⟩ := hinv
 simp only at i1 i2 i3 i4 i5 i6
 rw [hdr] at i2 i4 i5
 simp only [sumL] at i4
 rw [show ansMks x = sumL Tm.mks x from rfl] at i4
 have hget := marked_get (av := ansAv) (done := done) (x := x) (rest := l.drop (i + 1))
 obtain ⟨b, bs', w, A, oe, bo, B, rfl, hbs, hsb, hA, hoe, hbo, hbn, hsub, hw, hi, hfoc⟩ := i5.focus hnd hget
 rw [ansAv_width] at hw
 subst hw
 rw [i1] at hA
 obtain ⟨q, rfl, hq⟩ := own_agg1.1 hoe
 have hlen2 : ((done ++ (x : List Tm) :: l.drop (i + 1)).map ansAv).length = l.length := by
  rw [List.length_map, List.length_append, List.length_cons, List.length_drop, i1]; omega
 rw [hlen2] at haL hfoc ⊢
 have hat := held_at (P := prog) (b := b) (len := l.length) (w := 1) (i := i) eI_26 hlt
 have hw4 := wrap64 (n := (i : Int) + 1) (by omega) (by omega)
 obtain ⟨e1, e2, e3, e4, e5, e6⟩ := midE (B := B) hA
 have hqa : q.isAgg = false := (Own.shape hq).1
 simp -implicitDefEqProofs only [haL, hlt', hat, hsb, e1, e2, e3, e4, e5, e6, hqa, Nat.add_zero, List.set_cons_zero, List.set_cons_succ, zy7.upd_upd, evF, ↓evZ, implies_true, seval, tf_T8_18]
 refine (c_markTermS x k q bo _ hq hbo (by omega) (by omega)).mono ?_
 rintro _ s2 ⟨rfl, hq2, hk2⟩
 simp -implicitDefEqProofs only [hw4, evF, ↓evZ, implies_true, seval, tf_T8_18]
 refine ⟨(done ++ [ansMark x k], k + (sumL Tm.mks x : Int), s2), ⟨?_, ?_, ?_, ?_, ?_, ?_⟩, zx7.mk (by simp -implicitDefEqProofs only [evF, ↓evZ, implies_true, seval, tf_T8_18])⟩
 · simp [i1]
 · simp only [markL] at i2
   rw [← i2]
   simp [ansMks]
 · simp only; omega
 · simp only; omega
 · have := hfoc s2 (ansAv (ansMark x k)) (.agg [q]) (ansAv_width _)
    (fun x hx hxb hxo => hk2 x hxo)
    (by rw [hk2 b hbn, hsb])
    (own_agg1.2 ⟨q, rfl, hq2⟩)
   rw [marked_set] at this
   exact this
 · intro y hx
   show s2 y = st y
   rw [hk2 y (fun h => hx (hsub y h)), i6 y hx]
abbrev tf_T8_19 := zi tI_3 (zi zI_3 (zi underlying3 (zi tI_26 (zi zI_26 (zi eI_26 (zi eB_26 (zi eZ_26 (zi underlying26 (zi tI_31 (zi zI_31 (zi eI_31 (zi eB_31 (zi eZ_31 (zi underlying31 (zi tI_51 (zi zI_51 (zi fI_51_0 bI_51)))))))))))))))))
theorem c_heldAnswerS (l : List (List Tm)) (j : Int) (st : zy7) (h0 : 0 ≤ j) (h1 : j + sumL ansMks l ≤ 1099511627776) :
 zq7 prog 19 [.slice ((markL ansMark ansMks l j).map ansAv), .int .i64 j] st (fun r st' => r = .int .i64 (j + sumL ansMks l) ∧ st' = st) := by
 refine zw6 [1000000] func19 ntmps19 rfl rfl (by kernel_rfl) (by decide +kernel) (by show 2 ≤ _; decide +kernel) ?_
 simp only [fitsL, AV.fits, and_true, List.length_map, markL_length]
 intro ⟨hl, _⟩
 have hML : (markL ansMark ansMks l j).length = l.length := markL_length _ _ _ _
 simp -implicitDefEqProofs only [List.length_map, hML, evF, ↓evZ, implies_true, seval, tf_T8_19]
 refine zy5 (σ := Unit) [1000000] [0] (markL ansMark ansMks l j) (fun i _ => True) (fun i _ => [(1, .int .i64 (j + sumL ansMks (l.take i))), (4, .int .i64 0), (5, .int .i64 i)]) (fun _ _ => st) (by decide +kernel) ⟨(), trivial, zx7.mk (by simp -implicitDefEqProofs only [sumL, List.take_zero, Int.add_zero, List.length_map, hML, evF, ↓evZ, implies_true, seval, tf_T8_19])⟩ (fun i x _ hx hlt hlt' hdr _ => ?_) (fun _ hge _ => ?_)
 case refine_2 =>
  rw [hML] at hge
  simp -implicitDefEqProofs only [hge, List.take_length, List.length_map, hML, evF, ↓evZ, implies_true, seval, tf_T8_19]
 rw [hML] at hlt hlt'
 obtain ⟨y, hy⟩ : ∃ y, l[i]? = some y := ⟨_, List.getElem?_eq_getElem hlt⟩
 have hxy : x = ansMark y (j + sumL ansMks (l.take i)) := by
  have := markL_drop ansMark ansMks l j i
  rw [hdr, List.drop_eq_getElem_cons hlt, markL, (List.getElem?_eq_some_iff.1 hy).2] at this
  exact (List.cons.inj this).1
 have hs := sumL_take ansMks hy
 rw [show ansMks y = sumL Tm.mks y from rfl] at hs
 have hat := ev_at (av := ansAv) eI_26 hx (ansAv_width x)
 rw [hxy, ansMark, ansAv] at hat
 obtain ⟨hs1, hs2⟩ := hs
 generalize hk : j + (sumL ansMks (l.take i) : Int) = m at *
 have hw := wrap64 (n := (i : Int) + 1) (by omega) (by omega)
 simp -implicitDefEqProofs only [hlt', decide_true, Bool.not_true, List.length_map, hML, hat, evF, ↓evZ, implies_true, seval, tf_T8_19]
 refine (c_heldTermS y m _ (by omega) (by omega)).to ?_
 have hneg : ¬ (m + (sumL Tm.mks y : Int) < 0) := by omega
 simp -implicitDefEqProofs only [hneg, decide_false, List.length_map, hML, hat, evF, ↓evZ, implies_true, seval, tf_T8_19]
 refine ⟨(), zx7.mk ?_⟩
 have e : j + (sumL ansMks (l.take (i + 1)) : Int) = m + (sumL Tm.mks y : Int) := by omega
 simp -implicitDefEqProofs only [hw, e, List.length_map, hML, hat, evF, ↓evZ, implies_true, seval, tf_T8_19]
end Go.AW


namespace Go.AW
open Go.Proofs.Tryz
set_option linter.unusedSimpArgs false
set_option linter.unusedVariables false
set_option maxRecDepth 100000
abbrev tf_T10_3 := zi tI_3 (zi zI_3 (zi underlying3 (zi tI_4 (zi zI_4 (zi underlying4 (zi tI_22 (zi zI_22 (zi eI_22 (zi eB_22 (zi eZ_22 (zi underlying22 (zi tI_23 (zi zI_23 (zi eI_23 (zi eB_23 (zi eZ_23 (zi underlying23 (zi tI_26 (zi zI_26 (zi eI_26 (zi eB_26 (zi eZ_26 (zi underlying26 (zi tI_29 (zi zI_29 (zi eI_29 (zi eB_29 (zi eZ_29 (zi underlying29 (zi tI_31 (zi zI_31 (zi eI_31 (zi eB_31 (zi eZ_31 underlying31))))))))))))))))))))))))))))))))))
set_option maxHeartbeats 2000000 in
theorem c_FnExactSolve (p : List Cl) (q : List Tm) (most fuel : Int) (st : zy7) : zq7 prog 3 [.slice (p.map clAv), .slice (q.map Tm.av), .int .i64 most, .int .i64 fuel] st (fun r _ => r = .bool true) := by
 refine zw6 [1000000] func3 ntmps3 rfl rfl (by kernel_rfl) (by decide +kernel) (by show 4 ≤ _; decide +kernel) ?_
 intro _
 simp -implicitDefEqProofs only [List.length_map, evF, ↓evZ, implies_true, seval, tf_T10_3]
 refine (c_szClauseS' p _ st (by omega) (by omega)).to ?_
 simp -implicitDefEqProofs only [List.length_map, evF, ↓evZ, implies_true, seval, tf_T10_3]
 refine zq4 (fun h1 => ?_) (fun h1 => ?_)
 · simp -implicitDefEqProofs only [List.length_map, evF, ↓evZ, implies_true, seval, tf_T10_3]
 simp only [decide_eq_false_iff_not, szR_neg] at h1
 rw [szR_pos h1]
 simp -implicitDefEqProofs only [List.length_map, evF, ↓evZ, implies_true, seval, tf_T10_3]
 refine (c_szTermS' q _ _ (by omega) (by omega)).to ?_
 simp -implicitDefEqProofs only [List.length_map, evF, ↓evZ, implies_true, seval, tf_T10_3]
 refine zq4 (fun h2 => ?_) (fun h2 => ?_)
 · simp -implicitDefEqProofs only [List.length_map, evF, ↓evZ, implies_true, seval, tf_T10_3]
 simp only [decide_eq_false_iff_not, szR_neg] at h2
 have ha : szC p ≤ 1048576 := by omega
 have hb : szL q ≤ 1048576 := by omega
 have hm1 := clMks_szC p
 have hm2 := mks_szL q
 have hsp := c_spec_Solve p q most fuel
 have him := c_impl_Solve p q most fuel
 have hSo := solveS_ok p (cnd := fun _ l => l) (fun _ l => ⟨fun _ h => h, Nat.le_refl _⟩) q most fuel
 generalize solveS p (fun _ l => l) q most fuel = T at *
 obtain ⟨L, e⟩ := T
 simp only at hsp him hSo
 have hm3 : sumL ansMks L ≤ 9360 * L.length := anss_mks hSo.2
 have hm4 := hSo.1
 simp -implicitDefEqProofs only [List.length_map, evF, ↓evZ, implies_true, seval, tf_T10_3]
 refine (c_toClauseS' p _ ha).to ?_
 simp -implicitDefEqProofs only [List.length_map, evF, ↓evZ, implies_true, seval, tf_T10_3]
 refine (c_toTermS' q _ hb).to ?_
 simp -implicitDefEqProofs only [List.length_map, evF, ↓evZ, implies_true, seval, tf_T10_3]
 refine (hsp _).to ?_
 simp -implicitDefEqProofs only [List.length_map, evF, ↓evZ, implies_true, seval, tf_T10_3]
 refine (o_toClauseS' p _ ha).mono ?_
 rintro o0 s1 ⟨b0, n0, f0, O0, k0⟩
 obtain ⟨hc0, hs0, ha0, hw0, hj0⟩ := Own.one' O0
 simp -implicitDefEqProofs only [hs0, hj0, hc0, hw0, ha0, evF, ↓evZ, implies_true, seval, tf_T10_3]
 refine (o_toTermS' q _ hb).mono ?_
 rintro o1 s2 ⟨b1, n1, f1, O1, k1⟩
 have d01 : Apart b0 b1 := O0.apart f1
 have O0' := O0.beside k1 d01
 obtain ⟨hc1, hs1, ha1, hw1, hj1⟩ := Own.one' O1
 simp -implicitDefEqProofs only [hs1, hj0, hj1, evF, ↓evZ, implies_true, seval, tf_T10_3]
 refine (zq7.seeMadeT (fun s => him s) (Seen.own O0' (Seen.own O1 (Seen.same (Seen.same .nil))))).mono ?_
 rintro g s3 hg
 obtain ⟨og, rfl, bg, ng, fg, Og, kg⟩ := hg.toMadeI
 have d0g : Apart b0 bg := O0'.apart fg
 have d1g : Apart b1 bg := O1.apart fg
 have O0'' := O0'.beside kg d0g
 have O1' := O1.beside kg d1g
 obtain ⟨hcg, hsg, hag, hwg, hjg⟩ := Own.one' Og
 simp -implicitDefEqProofs only [hcg, hwg, hsg, hjg, hag, evF, ↓evZ, implies_true, seval, tf_T10_3]
 refine (zq7.see (fun s => c_eqAnswerS' L s) (Seen.own Og (Seen.same .nil)) rfl).to ?_
 simp -implicitDefEqProofs only [beq_self_eq_true, bne_self_eq_false, decide_true, hcg, hwg, hsg, hjg, hag, evF, ↓evZ, implies_true, seval, tf_T10_3]
 refine (c_toClauseS' p _ ha).to ?_
 simp -implicitDefEqProofs only [hcg, hwg, hsg, hjg, hag, evF, ↓evZ, implies_true, seval, tf_T10_3]
 refine (zq7.see (fun s => c_eqClauseS' p s) (Seen.own O0'' (Seen.same .nil)) rfl).to ?_
 simp -implicitDefEqProofs only [hcg, hwg, hsg, hjg, hag, evF, ↓evZ, implies_true, seval, tf_T10_3]
 refine (c_toTermS' q _ hb).to ?_
 simp -implicitDefEqProofs only [hcg, hwg, hsg, hjg, hag, evF, ↓evZ, implies_true, seval, tf_T10_3]
 refine (zq7.see (fun s => c_eqTermS' q s) (Seen.own O1' (Seen.same .nil)) rfl).to ?_
 simp -implicitDefEqProofs only [hcg, hwg, hsg, hjg, hag, evF, ↓evZ, implies_true, seval, tf_T10_3]
 refine (c_markClauseS p 1 o0 b0 s3 O0'' n0 (by omega) (by omega)).mono ?_
 rintro _ s4 ⟨rfl, _, k4⟩
 have O1'' := O1'.beside k4 d01.symm
 have Og4 := Og.beside k4 d0g.symm
 simp -implicitDefEqProofs only [hcg, hwg, hsg, hjg, hag, evF, ↓evZ, implies_true, seval, tf_T10_3]
 refine (c_markTermS q _ o1 b1 s4 O1'' n1 (by omega) (by omega)).mono ?_
 rintro _ s5 ⟨rfl, _, k5⟩
 have Og5 := Og4.beside k5 d1g.symm
 have hneg0 : ¬ (1 + (sumL clMks p : Int) + (sumL Tm.mks q : Int) < 0) := by omega
 simp -implicitDefEqProofs only [hneg0, decide_false, hcg, hwg, hsg, hjg, hag, evF, ↓evZ, implies_true, seval, tf_T10_3]
 refine (zq7.see (fun s => c_eqAnswerS' L s) (Seen.own Og5 (Seen.same .nil)) rfl).to ?_
 simp -implicitDefEqProofs only [beq_self_eq_true, bne_self_eq_false, decide_true, hcg, hwg, hsg, hjg, hag, evF, ↓evZ, implies_true, seval, tf_T10_3]
 refine (c_markAnswerS L 1 og bg s5 Og5 ng (by omega) (by omega)).mono ?_
 rintro _ s6 ⟨rfl, Og6, k6⟩
 have hneg : ¬ (1 + (sumL ansMks L : Int) < 0) := by omega
 simp -implicitDefEqProofs only [hcg, hwg, hsg, hjg, hag, hneg, decide_false, evF, ↓evZ, implies_true, seval, tf_T10_3]
 refine (zq7.see (fun s => c_heldAnswerS L 1 s (by omega) (by omega)) (Seen.own Og6 (Seen.same .nil)) rfl).to ?_
 simp -implicitDefEqProofs only [decide_true, bne_self_eq_false, hcg, hwg, hsg, hjg, hag, hneg, decide_false, evF, ↓evZ, implies_true, seval, tf_T10_3]
 refine (c_toClauseS' p _ ha).to ?_
 simp -implicitDefEqProofs only [hcg, hwg, hsg, hjg, hag, hneg, decide_false, evF, ↓evZ, implies_true, seval, tf_T10_3]
 refine (c_toTermS' q _ hb).to ?_
 simp -implicitDefEqProofs only [hcg, hwg, hsg, hjg, hag, hneg, decide_false, evF, ↓evZ, implies_true, seval, tf_T10_3]
 refine ((him _).madeT).to ?_
 simp -implicitDefEqProofs only [hcg, hwg, hsg, hjg, hag, hneg, decide_false, evF, ↓evZ, implies_true, seval, tf_T10_3]
 refine (c_eqAnswerS' L _).to ?_
 simp -implicitDefEqProofs only [beq_self_eq_true, bne_self_eq_false, decide_true, hcg, hwg, hsg, hjg, hag, hneg, decide_false, evF, ↓evZ, implies_true, seval, tf_T10_3]
 refine (zq7.see (fun s => c_heldAnswerS L 1 s (by omega) (by omega)) (Seen.own Og6 (Seen.same .nil)) rfl).to ?_
 simp -implicitDefEqProofs only [decide_true, bne_self_eq_false, hcg, hwg, hsg, hjg, hag, hneg, decide_false, evF, ↓evZ, implies_true, seval, tf_T10_3]
end Go.AW

/- What a law is handed, read as data; the law's row from a contract. -/
namespace Go.AW
open Go.ChangeShapes Go.WideShapes Go.ChangeAt Go.RowKit
abbrev none0 : zy7 := fun _ => none
section
variable {H : Type} {enc : TypeId × Value → H} {P : Program} {w : World}
def Reads (enc : TypeId × Value → H) (P : Program) (w : World) (t n : Nat) {α : Type} (av : α → AV) : Prop :=
 ∀ cs x, DataW.trod enc P w 0 (fun _ => true) true n t cs = some x → ∃ a : α, VC w.heap none0 (av a) cs
theorem VEs_each {h : Heap} {st : zy7} {b k : Nat} : ∀ {es : List AV} {off : Nat}, (∀ e ∈ es, e.width = k) → (∀ (i : Nat) e, es[i]? = some e → VE h st b (off + i * k) e) → VEs h st b off es
 | [], _, _, _ => by simp [VEs]
 | e :: es, off, hw, h => by
  simp only [VEs]
  refine ⟨by simpa [VE] using h 0 e rfl, VEs_each (fun x hx => hw x (by simp [hx])) fun i x hx => ?_⟩
  have := h (i + 1) x (by simpa using hx)
  rw [hw e (by simp), Nat.add_assoc, ← Nat.succ_mul' k i] 
  exact this
where Nat.succ_mul' (k i : Nat) : (i + 1) * k = k + i * k := by rw [Nat.succ_mul]; omega
theorem cell_spot {a : Addr} {v : Value} (h : w.cell? a = some v) : a.spot = none ∧ a.block < w.heap.size ∧ cellAt w.heap a.block a.off = some v := by
 unfold World.cell? at h
 split at h
 · rename_i c t fr hb
   split at h
   · cases h
   · rename_i hs
     refine ⟨by simpa using hs, (Array.getElem?_eq_some_iff.1 hb).1, by simp [cellAt, hb, h]⟩
 · cases h
theorem cells_at {a : Addr} {n : Nat} {cs : List Value} (hs : a.spot = none) (h : w.cells? 0 a n = some cs) : cellsAt w.heap a.block a.off cs ∧ cs.length = n := by
 obtain ⟨_, hl, hc⟩ := World.cells?_some h
 refine ⟨?_, hl⟩
 have : ∀ (l : List Value) (k : Nat), (∀ i, i < l.length → w.cell? (a.add (k + i)) = l[i]?) → cellsAt w.heap a.block (a.off + k) l := by
  intro l
  induction l with
  | nil => intro _ _; trivial
  | cons v l ih =>
   intro k hk
   refine ⟨?_, ?_⟩
   · have := (cell_spot (hk 0 (by simp))).2.2
     obtain ⟨b, off, sp⟩ := a
     simp only at hs
     subst hs
     simpa [Addr.add_flat] using this
   · have := ih (k + 1) (fun i hi => by have := hk (i + 1) (by simp; omega); rw [show k + 1 + i = k + (i + 1) by omega]; simpa using this)
     simpa [Nat.add_assoc] using this
 simpa using this cs 0 (fun i hi => by simpa using hc i (by omega))
theorem reads_slice {t e n k : Nat} {α : Type} {av : α → AV} (ht : P.underlying t = some (.slice e)) (hk : P.cellsOf e = k) (hpos : 0 < k) (hw : ∀ a, (av a).width = k) (hr : ∀ m, m < n → Reads enc P w e m av) :
 Reads enc P w t n (fun l : List α => .slice (l.map av)) := by
 intro cs x h
 rcases DataW.trod_slice ht h with ⟨rfl, _⟩ | ⟨a, len, cap, elems, rest, m, hm, rfl, rfl, _, hl, hcap, hlen, hel, hsp, _⟩
 · exact ⟨[], by simp only [List.map_nil]; unfold VC; exact .inl ⟨⟨_, rfl⟩, rfl⟩⟩
 obtain ⟨hrl, hrest⟩ := hsp rfl
 rw [hk] at hel hrest
 have get : ∀ i, i < cap → ∃ ds y, w.cells? 0 (a.add (i * k)) k = some ds ∧ DataW.trod enc P w 0 (fun _ => true) true m e ds = some y := by
  intro i hi
  have hb : ∃ y, (w.cells? 0 (a.add (i * k)) k).bind (DataW.trod enc P w 0 (fun _ => true) true m e) = some y := by
   by_cases hi' : i < len
   · exact ⟨elems[i]'(by omega), by rw [hel i hi']; simp [show i < elems.length by omega]⟩
   · have := hrest (i - len) (by omega)
     rw [show len + (i - len) = i by omega] at this
     exact ⟨rest[i - len]'(by omega), by rw [this]; simp [show i - len < rest.length by omega]⟩
  obtain ⟨y, hy⟩ := hb
  obtain ⟨ds, h1, h2⟩ := Option.bind_eq_some_iff.1 hy
  exact ⟨ds, y, h1, h2⟩
 by_cases hc0 : cap = 0
 · subst hc0
   obtain rfl : len = 0 := by omega
   exact ⟨[], by simp only [List.map_nil]; unfold VC; exact .inl ⟨⟨_, rfl⟩, rfl⟩⟩
 obtain ⟨ds0, _, hd0, _⟩ := get 0 (by omega)
 have hspot : a.spot = none ∧ a.block < w.heap.size := by
  obtain ⟨_, hl0, hc⟩ := World.cells?_some hd0
  have := hc 0 hpos
  have h0 : ds0[0]? = some (ds0[0]'(by omega)) := by simp [hl0, hpos]
  rw [h0] at this
  have := cell_spot this
  obtain ⟨b, off, sp⟩ := a
  simp only [Nat.zero_mul] at this
  cases sp with
  | none => exact ⟨rfl, by simpa [Addr.add_flat] using this.2.1⟩
  | some s => exact absurd this.1 (by simp [Addr.add])
 obtain ⟨b, off, sp⟩ := a
 simp only at hspot
 obtain ⟨rfl, hbl⟩ := hspot
 have val : ∀ i, i < len → ∃ v : α, VE w.heap none0 b (off + i * k) (av v) := by
  intro i hi
  obtain ⟨ds, y, h1, h2⟩ := get i (by omega)
  obtain ⟨v, hv⟩ := hr m (by omega) ds y h2
  obtain ⟨c1, c2⟩ := cells_at (a := (⟨b, off, none⟩ : Addr).add (i * k)) (by simp [Addr.add_flat]) h1
  exact ⟨v, ds, by simpa [Addr.add_flat] using c1, by rw [hw]; exact c2, hv⟩
 have build : ∀ j, j ≤ len → ∃ l : List α, l.length = j ∧ ∀ (i : Nat) v, l[i]? = some v → VE w.heap none0 b (off + i * k) (av v) := by
  intro j
  induction j with
  | zero => intro _; exact ⟨[], rfl, by simp⟩
  | succ j ih =>
   intro hj
   obtain ⟨l, h1, h2⟩ := ih (by omega)
   obtain ⟨v, hv⟩ := val j (by omega)
   refine ⟨l ++ [v], by simp [h1], fun i u hi => ?_⟩
   rw [List.getElem?_append] at hi
   split at hi
   · exact h2 i u hi
   · rename_i hge
     have : i = j := by
      have := (List.getElem?_eq_some_iff.1 hi).1
      simp at this
      omega
     subst this
     simp [h1] at hi
     subst hi
     exact hv
 obtain ⟨l, h1, h2⟩ := build len (Nat.le_refl _)
 refine ⟨l, ?_⟩
 unfold VC
 refine .inr ⟨b, off, cap, by simp [h1], by simp [h1]; exact hl, hcap, rfl, hbl, even_map hw l, VEs_each (k := k) (by intro e he; simp only [List.mem_map] at he; obtain ⟨v, _, rfl⟩ := he; exact hw v) fun i e he => ?_⟩
 rw [List.getElem?_map] at he
 obtain ⟨v, hv, rfl⟩ := Option.map_eq_some_iff.1 he
 exact h2 i v hv
theorem rd_field {fs : Array Field} {n : Nat} {cs : List Value} {xs : List (DataW H × List MemPlace)} (hx : xs.length = fs.size)
 (hf : ∀ (i : Nat) (f : Field), fs[i]? = some f → DataW.trod enc P w 0 (fun _ => true) true n f.type ((cs.drop f.offset).take (P.cellsOf f.type)) = xs[i]?) (i : Nat) {f : Field} (h : fs[i]? = some f) :
 ∃ y, DataW.trod enc P w 0 (fun _ => true) true n f.type ((cs.drop f.offset).take (P.cellsOf f.type)) = some y := by
 have hi : i < xs.length := by rw [hx]; exact (Array.getElem?_eq_some_iff.1 h).1
 exact ⟨xs[i], by rw [hf i f h]; simp [hi]⟩
theorem reads_val {t : TypeId} {α : Type} {av : α → AV} {v : Value} {d : DataW H} {ps : List MemPlace} (hr : ∀ n, Reads enc P w t n av) (hag : ∀ a, (av a).isAgg = vIsAgg v) (h : DataW.Trod enc P w 0 (fun _ => true) true t v d ps) :
 ∃ a : α, VRel w.heap none0 (av a) v := by
 obtain ⟨n, hn⟩ := h
 obtain ⟨a, ha⟩ := hr n _ _ hn
 refine ⟨a, ?_⟩
 have := hag a
 cases hq : av a <;> rw [hq] at ha this <;> first | trivial | exact ⟨this, ha⟩
theorem trodAll_stays (hl : laidOutB P = true) {W W' : World} {sp : Nat → Bool} : ∀ {ts : List TypeId} {vs : List Value} {ds : List (DataW H)} {ps : List MemPlace}, (ts.all fun t => P.readableRec t && decide (t < P.types.size)) = true →
 DataW.TrodAll enc P W 0 (fun _ => true) true ts vs ds ps → (∀ x ∈ ps, W.sameAt W' x) → (∀ x ∈ ps, sp x.block = true) → DataW.TrodAll enc P W' 0 sp true ts vs ds ps
 | [], vs, ds, ps, _, h, _, _ => by
  cases vs <;> cases ds <;> simp [DataW.TrodAll] at h ⊢
  exact h
 | t :: ts, vs, ds, ps, ht, h, h1, h2 => by
  obtain ⟨v, vs', d, ds', p, q, rfl, rfl, rfl, hd, hrest⟩ := trodAll_cons h
  simp only [List.all_cons, Bool.and_eq_true, decide_eq_true_eq] at ht
  refine ⟨p, q, Go.WideElems.Trod_stays hl ht.1.1 ht.1.2 hd (fun x hx => h1 x (by simp [hx])) (fun x hx => h2 x (by simp [hx])), trodAll_stays hl ht.2 hrest (fun x hx => h1 x (by simp [hx])) (fun x hx => h2 x (by simp [hx])), rfl⟩
theorem below_of {W W' : World} {st' : zy7} (T : StepH W.heap none0 W'.heap st') (s : Same W W') : Below W.heap.size W W' :=
 ⟨s.1, s.2.1, s.2.2, T.size, fun k hk => (T.keep k hk rfl).1⟩
theorem law_row {f : Func} {g : FuncId} {s : ChangeSpec} {W : World} {args : Array Value} {ds : List (DataW H)} {before : List MemPlace} {avs : List AV} {tb : TypeId}
 (hl : laidOutB P = true) (hts : (f.params.toList.all fun t => P.readableRec t && decide (t < P.types.size)) = true) (hrt : f.resultTypes = #[tb]) (htb : P.underlying tb = some .bool) (hsv : s.vars = [])
 (hW : DataW.Whole enc P f.params.toList [] false W args.toList ds [] before) (hfn : s.fn H ds = { results := [.lit (.bool true)], args := ds }) (hrel : VRelL W.heap none0 avs args.toList)
 (hc : zq7 P g avs none0 (fun r _ => r = .bool true)) :
 Calls P g args W fun e W' => ∃ v, e = .returned v ∧ s.post enc P f false true false false W args v W' := by
 have hS : SRel W.heap none0 := fun b o h => by cases h
 have := hc.2 W args.toList hS hrel
 simp only [Array.toArray_toList] at this
 refine this.mono ?_
 rintro e W' ⟨v, r, st', rfl, hv, _, T, sm, rfl⟩
 refine ⟨v, rfl, ?_⟩
 have hB := below_of T sm
 rw [hv.bool_of]
 have hW' : DataW.Whole enc P f.params.toList s.vars false W args.toList ds [] before := by rw [hsv]; exact hW
 obtain ⟨p, q, hA, hV, rfl, hz, _⟩ := hW
 obtain ⟨_, rfl⟩ := trodVars_none hV
 have hlt : ∀ x ∈ p, x.block < W.heap.size := fun x hx => hW'.lt x (by simp [hx])
 have hres : ∀ (b : Nat) (sp : Nat → Bool) (hd : Bool), DataW.TrodAll enc P W' b sp hd f.resultTypes.toList ((Value.bool true).resultList f.resultTypes.size) (s.fn H (ds ++ [])).results [] := fun _ _ _ => by
  rw [List.append_nil, hfn, hrt]
  exact trodAll_mk1 (shut_bool htb true)
 have hargs : ∀ sp : Nat → Bool, (∀ x ∈ p, sp x.block = true) → DataW.TrodAll enc P W' 0 sp true f.params.toList args.toList (s.fn H (ds ++ [])).args p := fun sp hsp => by
  rw [List.append_nil, hfn]
  exact trodAll_stays hl hts hA (fun x hx => hB.same (hlt x hx)) hsp
 have hvars : ∀ sp : Nat → Bool, DataW.TrodVars enc P W' sp s.vars (s.fn H (ds ++ [])).vars [] := fun sp => by
  rw [List.append_nil, hfn, hsv]
  exact rfl
 refine ⟨ds, [], p ++ [], [], p, [], hW', hres _ _ _, hargs _ (fun x hx => by simpa using hlt x hx), hvars _, World.keptBut_mono (fun x hx => ⟨hx, by simpa using hx⟩) (hB.frame (· ∈ p ++ [])), fun _ => ?_⟩
 refine ⟨ok_one hrt rfl (okWide_bool_mk htb true), _, _, ([] ++ p) ++ [], ⟨[] ++ p, [], trodAll_append (hargs _ (fun _ _ => rfl)) (hres _ _ _), hvars _, rfl, ?_, ?_⟩, ?_⟩
 · intro b off hp
   have hp' : MemPlace.cell b off ∈ p := by simpa using hp
   rw [hB.frozen (p := ⟨b, off, none⟩) (hlt _ hp')]
   exact hz b off (by simpa using hp')
 · intro ha; cases ha
 · intro x hx _
   simpa using hx
end
end Go.AW


namespace Go.AW
open Go.Proofs.Tryz
set_option maxRecDepth 100000
section
variable {H : Type} {enc : TypeId × Value → H} {w : World}
theorem VC_int {h : Heap} {st : zy7} {k : IntKind} {n : Int} : VC h st (.int k n) [.int k n] := by simp only [VC]
theorem cellsOf_int : prog.cellsOf 3 = 1 := by kernel_rfl
theorem cellsOf_string : prog.cellsOf 9 = 1 := by kernel_rfl
theorem cellsOf_terms : prog.cellsOf 23 = 1 := by kernel_rfl
theorem cellsOf_term : prog.cellsOf 68 = 4 := by kernel_rfl
theorem reads_Tm : ∀ n, Reads enc prog w 68 n Tm.av := by
 intro n
 induction n using Nat.strongRecOn with
 | _ n ih =>
  intro cs x h
  obtain ⟨xs, m, rfl, _, hl, hx, hf⟩ := DataW.trod_struct underlying68 h
  rw [cellsOf_term] at hl
  match cs, hl with
  | [c0, c1, c2, c3], _ =>
   obtain ⟨y0, h0⟩ := rd_field hx hf 0 rfl
   obtain ⟨y1, h1⟩ := rd_field hx hf 1 rfl
   obtain ⟨y2, h2⟩ := rd_field hx hf 2 rfl
   obtain ⟨y3, h3⟩ := rd_field hx hf 3 rfl
   replace h0 : DataW.trod enc prog w 0 (fun _ => true) true m 3 ([c0, c1, c2, c3].take (prog.cellsOf 3)) = some y0 := h0
   replace h1 : DataW.trod enc prog w 0 (fun _ => true) true m 3 ([c1, c2, c3].take (prog.cellsOf 3)) = some y1 := h1
   replace h2 : DataW.trod enc prog w 0 (fun _ => true) true m 9 ([c2, c3].take (prog.cellsOf 9)) = some y2 := h2
   replace h3 : DataW.trod enc prog w 0 (fun _ => true) true m 23 ([c3].take (prog.cellsOf 23)) = some y3 := h3
   rw [cellsOf_int] at h0 h1
   rw [cellsOf_string] at h2
   rw [cellsOf_terms] at h3
   obtain ⟨k, e0, _⟩ := DataW.trod_int underlying3 h0
   obtain ⟨j, e1, _⟩ := DataW.trod_int underlying3 h1
   obtain ⟨s, e2, _, es⟩ := DataW.trod_string underlying9 h2
   obtain ⟨l, e3⟩ := reads_slice (n := m) underlying23 cellsOf_term (by omega) Tm.av_width (fun m' hm => ih m' (by omega)) _ _ h3
   obtain rfl := (List.cons.inj e0).1
   obtain rfl := (List.cons.inj e1).1
   obtain rfl := (List.cons.inj e2).1
   refine ⟨.mk k j s l, ?_⟩
   rw [Tm.av_mk]
   unfold VC
   simp only [VCs]
   exact ⟨_, _, rfl, by simp only [VC], _, _, rfl, by simp only [VC], _, _, rfl, by simp only [VC]; exact ⟨trivial, es⟩, _, _, rfl, e3, rfl⟩
theorem reads_Tms (n : Nat) : Reads enc prog w 23 n (fun l : List Tm => .slice (l.map Tm.av)) :=
 reads_slice underlying23 cellsOf_term (by omega) Tm.av_width fun m _ => reads_Tm m
theorem wide_slice {r : Reach} {b0 : Nat} {t e : TypeId} {v : Value} (ht : prog.underlying t = some (.slice e)) (h : Value.okWide prog w r b0 t v) : vIsAgg v = false := by
 cases v <;> first | rfl | (simp [Value.okWide, ht, Cell.okWide, Cell.ok] at h)
end
end Go.AW


namespace Go.AW
open Go.Proofs.Tryz
set_option maxRecDepth 100000
section
variable {H : Type} {enc : TypeId × Value → H} {w : World}
theorem cellsOf_clause : prog.cellsOf 70 = 5 := by kernel_rfl
theorem reads_int (n : Nat) : Reads enc prog w 3 n (fun k : Int => .int .i64 k) := by
 intro cs x h
 obtain ⟨k, rfl, _⟩ := DataW.trod_int underlying3 h
 exact ⟨k, VC_int⟩
theorem reads_Cl (n : Nat) : Reads enc prog w 70 n clAv := by
 intro cs x h
 obtain ⟨xs, m, rfl, _, hl, hx, hf⟩ := DataW.trod_struct underlying70 h
 rw [cellsOf_clause] at hl
 match cs, hl with
 | [c0, c1, c2, c3, c4], _ =>
  obtain ⟨y0, h0⟩ := rd_field hx hf 0 rfl
  obtain ⟨y1, h1⟩ := rd_field hx hf 1 rfl
  replace h0 : DataW.trod enc prog w 0 (fun _ => true) true m 68 ([c0, c1, c2, c3, c4].take (prog.cellsOf 68)) = some y0 := h0
  replace h1 : DataW.trod enc prog w 0 (fun _ => true) true m 23 ([c4].take (prog.cellsOf 23)) = some y1 := h1
  rw [cellsOf_term] at h0
  rw [cellsOf_terms] at h1
  obtain ⟨⟨k, j, s, l⟩, e0⟩ := reads_Tm _ _ _ h0
  obtain ⟨b, e1⟩ := reads_Tms _ _ _ h1
  refine ⟨(.mk k j s l, b), ?_⟩
  rw [clAv_mk]
  rw [Tm.av_mk] at e0
  unfold VC at e0
  unfold VC
  simp only [VCs, List.cons.injEq] at e0 ⊢
  obtain ⟨_, _, ⟨rfl, rfl⟩, f0, _, _, ⟨rfl, rfl⟩, f1, _, _, ⟨rfl, rfl⟩, f2, _, _, ⟨rfl, rfl⟩, f3, _⟩ := e0
  exact ⟨_, _, ⟨rfl, rfl⟩, f0, _, _, rfl, f1, _, _, rfl, f2, _, _, rfl, f3, _, _, rfl, e1, rfl⟩
theorem reads_Cls (n : Nat) : Reads enc prog w 22 n (fun l : List Cl => .slice (l.map clAv)) :=
 reads_slice underlying22 cellsOf_clause (by omega) clAv_width fun m _ => reads_Cl m
theorem wide_int {r : Reach} {b0 : Nat} {v : Value} (h : Value.okWide prog w r b0 3 v) : vIsAgg v = false := by
 cases v <;> first | rfl | (simp [Value.okWide, underlying3, Cell.okWide, Cell.ok] at h)
end
end Go.AW
