import Derived.Test.YtcndknlbedcimaaGreatDoorSeqn
import Derived.Test.YtcndknlbedcimaaGreatDoorSeqm
import Derived.Test.YtcndknlbedcimaaGreatDoorSeqf
import Derived.Test.YtcndknlbedcimaaGreatDoorSeqi
import Derived.Test.YtcndknlbedcimaaGreatDoorSeqj
set_option linter.unusedSimpArgs false
set_option linter.unusedVariables false
set_option maxRecDepth 100000
namespace Go.AW
open Go.Proofs.Tryz
theorem rcAv_mk (k n : Int) (s : ByteArray) (ts : List Tm) (rest : List RG) (left : List Nat) (σ : Sub) (N : Nat) : rcAv ⟨.mk k n s ts, rest, left, σ, N⟩ = .agg [.int .i64 k, .int .i64 n, .str s, .slice (ts.map Tm.av), .slice (rest.map rgAv), .slice (left.map nv), .slice (arrN N σ)] := rfl
structure RcOk (p : List Cl) (c : RC) : Prop where
 good : IsGood c.σ
 ok : AllS (OkX c.N) c.σ
 dom : ∀ n, ¬(0 ≤ n ∧ n < (c.N : Int)) → c.σ n = none
 goal : OkX c.N c.goal
 rest : ∀ g ∈ c.rest, OkX c.N g.t ∧ g.t.k = 3
 left : ∀ i ∈ c.left, i < p.length
 len : c.rest.length ≤ 524288
 llen : c.left.length ≤ 1048576
structure RsOk (p : List Cl) (B : Nat) (s : RS) : Prop where
 good : IsGood s.σ
 ok : AllS (OkX s.N) s.σ
 dom : ∀ n, ¬(0 ≤ n ∧ n < (s.N : Int)) → s.σ n = none
 goals : ∀ g ∈ s.goals, OkX s.N g.t ∧ g.t.k = 3
 pos : 0 < s.N
 hN : s.N ≤ B
 gl : s.goals.length ≤ B
 chl : s.chs.length ≤ B
 chs : ∀ c ∈ s.chs, RcOk p c ∧ c.N + 26 ≤ B ∧ c.rest.length + 26 ≤ B ∧ 0 < c.N
theorem AllS.upN {N M : Nat} {σ : Sub} (h : AllS (OkX N) σ) (hm : N ≤ M) : AllS (OkX M) σ := h.imp fun t ht => ht.mono (by omega)
theorem arrN_more {N k : Nat} {σ : Sub} (hd : ∀ n, ¬(0 ≤ n ∧ n < (N : Int)) → σ n = none) : arrN N σ ++ List.replicate k zt = arrN (N + k) σ := by
 apply List.ext_getElem?
 intro i
 have hl := arrN_len N σ
 by_cases hi : i < N
 · rw [List.getElem?_append_left (by omega), arrN_get N σ hi, arrN_get (N + k) σ (by omega)]
 · rw [List.getElem?_append_right (by omega), hl]
   by_cases h2 : i < N + k
   · rw [arrN_get (N + k) σ h2, hd (i : Int) (fun h => hi (by omega)), List.getElem?_replicate, if_pos (by omega)]
     rfl
   · rw [List.getElem?_eq_none (by simp; omega), List.getElem?_eq_none (by rw [arrN_len]; omega)]
theorem app_zeros {N k b : Nat} {σ : Sub} (hd : ∀ n, ¬(0 ≤ n ∧ n < (N : Int)) → σ n = none) (hN : N + k ≤ 1048576) {st : zy7} {K : AV → zy7 → Prop} (hb : st b = none)
 (hK : ∀ b', st b' = none → K (.mslice b' 0 (N + k) 4) (st.upd b' (.cells ((arrN (N + k) σ).flatMap AV.cells)))) :
 aAppendZ prog 31 3 (st.upd b (.cells ((arrN N σ).flatMap AV.cells))) (.mslice b 0 N 4) (.int .i64 (k : Int)) K := by
 have hu : prog.underlying 3 = some (.int .i64) := by kernel_rfl
 have hl : ((arrN N σ).flatMap AV.cells).length = N * 4 := by rw [flat_length (fun e he => (arrN_fits N σ e he).1), arrN_len]
 have hnew : ((arrN N σ).flatMap AV.cells).take (N * 4) ++ madeAV [AV.int .i64 0, .int .i64 0, .str ⟨#[]⟩, .fslice []] k = (arrN (N + k) σ).flatMap AV.cells := by
  rw [← hl, List.take_length, madeAV_eq _ (by simp), ← arrN_more hd, List.flatMap_append, List.flatMap_replicate]
  rfl
 unfold aAppendZ
 simp only [eI_31, eB_31, eZ_31, hu, zy7.upd_same, Int.toNat_natCast]
 refine ⟨rfl, by omega, rfl, by omega, trivial, by omega, by omega, by omega, ?_, fun b' hb' => ?_⟩
 · rw [hnew, zy7.upd_upd]
   exact hK b hb
 · rw [hnew, zy7.erase_upd st b _ hb]
   refine hK b' ?_
   by_cases h : b' = b
   · subst h; exact hb
   · rwa [zy7.upd_ne _ _ h] at hb'
theorem try_end {st s2 V : zy7} {o' o6 : AO} {b6 b11 b13 b14 b : Nat} {L A : List AV} (hD : Drops s2 st) (hA : s2 b11 = some (.cells (A.flatMap AV.cells))) (h11 : st b11 = none) (h6 : st b6 = none) (h62 : s2 b6 ≠ none) (h611 : b6 ≠ b11) (h13 : s2 b13 = none) (h14 : s2 b14 = none)
 (hV : ∀ q, q ≠ b13 → q ≠ b14 → V q = s2 q) (hV13 : V b13 ≠ none) (hV14 : V b14 ≠ none) (hb : L ≠ [] → V b = none) (hne : A ≠ []) :
 Drops (((accS V b L).upd b13 o').upd b6 o6) (accS (accS st b11 A) b L) ∧ (L ≠ [] → (accS st b11 A) b = none) := by
 have hb13 : b13 ≠ b11 := by rintro rfl; rw [h13] at hA; cases hA
 have hb14 : b14 ≠ b11 := by rintro rfl; rw [h14] at hA; cases hA
 have h136 : b13 ≠ b6 := by rintro rfl; exact h62 h13
 have n13 : st b13 = none := (hD b13).1 h13
 have n14 : st b14 = none := (hD b14).1 h14
 rw [accS_cons hne]
 have hbb : L ≠ [] → b ≠ b13 ∧ b ≠ b11 ∧ b ≠ b6 ∧ b ≠ b14 ∧ s2 b = none := fun h => by
  have h0 := hb h
  have e13 : b ≠ b13 := by rintro rfl; exact hV13 h0
  have e14 : b ≠ b14 := by rintro rfl; exact hV14 h0
  rw [hV b e13 e14] at h0
  exact ⟨e13, (by rintro rfl; rw [h0] at hA; cases hA), (by rintro rfl; exact h62 h0), e14, h0⟩
 refine ⟨fun q => ?_, fun h => ?_⟩
 · by_cases q6 : q = b6
   · subst q6
     have : accS (st.upd b11 (.cells (A.flatMap AV.cells))) b L q = none := by
      by_cases hL : L = []
      · subst hL; simp only [accS]; rw [zy7.upd_ne _ _ h611, h6]
      · obtain ⟨_, _, e6, _⟩ := hbb hL
        rw [accS_cons hL, zy7.upd_ne _ _ (Ne.symm e6), zy7.upd_ne _ _ h611, h6]
     rw [this]; simp
   rw [zy7.upd_ne _ _ q6]
   by_cases q13 : q = b13
   · subst q13
     have : accS (st.upd b11 (.cells (A.flatMap AV.cells))) b L q = none := by
      by_cases hL : L = []
      · subst hL; simp only [accS]; rw [zy7.upd_ne _ _ hb13, n13]
      · obtain ⟨e13, _⟩ := hbb hL
        rw [accS_cons hL, zy7.upd_ne _ _ (Ne.symm e13), zy7.upd_ne _ _ hb13, n13]
     rw [this]; simp
   rw [zy7.upd_ne _ _ q13]
   have rest : q ≠ b ∨ L = [] → (V q = none → st.upd b11 (.cells (A.flatMap AV.cells)) q = none) ∧ ∀ o, st.upd b11 (.cells (A.flatMap AV.cells)) q = some o → V q = some o := fun _ => by
    by_cases q14 : q = b14
    · subst q14
      rw [zy7.upd_ne _ _ hb14, n14]
      simp
    rw [hV q q13 q14]
    by_cases q11 : q = b11
    · subst q11; rw [zy7.upd_same, hA]; simp
    rw [zy7.upd_ne _ _ q11]
    exact hD q
   by_cases hL : L = []
   · subst hL
     exact rest (.inr rfl)
   · rw [accS_cons hL, accS_cons hL]
     by_cases qb : q = b
     · subst qb; rw [zy7.upd_same, zy7.upd_same]; simp
     rw [zy7.upd_ne _ _ qb, zy7.upd_ne _ _ qb]
     exact rest (.inl qb)
 · obtain ⟨e13, e11, e6, e14, h0⟩ := hbb h
   rw [zy7.upd_ne _ _ e11]
   exact (hD b).1 h0
theorem accS_other {st : zy7} {b q : Nat} {l : List AV} {o : AO} (hb : l ≠ [] → st b = none) (h : st q = some o) : accS st b l q = some o := by
 cases l with
 | nil => exact h
 | cons x l =>
  rw [accS_cons (by simp), zy7.upd_ne _ _ (by rintro rfl; rw [hb (by simp)] at h; cases h)]
  exact h
theorem fin_msN {b b' o n w : Nat} {l : List AV} (h : l ≠ [] → b' ≠ b) : (AV.mslice b' o n w).fin b l = .mslice b' o n w := by
 unfold AV.fin
 cases l with
 | nil => rfl
 | cons x l =>
  simp only [List.isEmpty_cons, Bool.false_eq_true, if_false]
  cases o with
  | zero => simp only [AV.fz]; rw [if_neg (fun e => h (by simp) e.1)]; rfl
  | succ o => rfl
theorem fin_arrN {b N : Nat} {σ : Sub} (h0 : 0 < N) : (AV.mslice b 0 N 4).fin b (arrN N σ) = .slice (arrN N σ) := by
 have hl := arrN_len N σ
 have h : arrN N σ ≠ [] := by intro e; rw [e] at hl; simp at hl; omega
 have : accV 4 b (arrN N σ) = .mslice b 0 N 4 := by rw [accV_cons h, hl]
 rw [← this, accV_fin]
theorem rc_junk (l : List RC) : ∀ e ∈ l.map rcAv, e.isJunk = false := by intro e he; simp only [List.mem_map] at he; obtain ⟨t, _, rfl⟩ := he; exact rcAv_junk t
theorem rc_widths (l : List RC) : ∀ e ∈ l.map rcAv, e.width = 7 := by intro e he; simp only [List.mem_map] at he; obtain ⟨t, _, rfl⟩ := he; exact rcAv_width t
theorem slice_nv {φ : AF} {d i : Nat} {l : List Nat} (hi : i + 1 < l.length) (h : φ d = .int .i64 ((i : Int) + 1)) : aSlice prog φ 58 (.slice (l.map nv)) (some (.tmp d)) none none = some (.slice ((l.drop (i + 1)).map nv)) := by
 have he : φ.eval (.tmp d) = .int .i64 ((i : Int) + 1) := h
 have hb : aBound φ (some (.tmp d)) 0 l.length = some (i + 1) := by
  simp only [aBound, he]
  rw [if_pos (by omega)]
  congr 1
 have hwo : widthOk (l.map nv) (i + 1) 1 = true := by
  unfold widthOk
  rw [List.getElem?_map, List.getElem?_eq_getElem hi]
  rfl
 unfold aSlice
 rw [if_neg (by simp [isF0])]
 simp only [aSlice0, eI_58]
 rw [if_neg (by simp)]
 simp only [aBound] at hb ⊢
 have ht : List.take l.length (l.map nv) = l.map nv := List.take_of_length_le (by simp)
 simp only [List.length_map, hb, hwo, or_true, if_true, ht]
 simp [List.map_drop]
abbrev tf_R4_146 := zi tI_3 (zi zI_3 (zi underlying3 (zi tI_4 (zi zI_4 (zi underlying4 (zi tI_29 (zi zI_29 (zi eI_29 (zi eB_29 (zi eZ_29 (zi underlying29 (zi tI_31 (zi zI_31 (zi eI_31 (zi eB_31 (zi eZ_31 (zi underlying31 (zi tI_42 (zi zI_42 (zi fI_42_0 (zi fI_42_1 (zi fI_42_2 (zi fI_42_3 (zi bI_42 (zi tI_58 (zi zI_58 (zi eI_58 (zi eB_58 (zi eZ_58 (zi underlying58 (zi tI_75 (zi zI_75 (zi fI_75_0 (zi fI_75_1 (zi bI_75 (zi tI_108 (zi zI_108 (zi eI_108 (zi eB_108 (zi eZ_108 (zi underlying108 (zi tI_109 (zi zI_109 (zi eI_109 (zi eB_109 (zi eZ_109 (zi underlying109 (zi tI_111 (zi zI_111 (zi fI_111_0 (zi fI_111_1 (zi fI_111_2 (zi bI_111 (zi tI_165 (zi zI_165 (zi fI_165_0 (zi fI_165_1 (zi fI_165_2 (zi fI_165_3 bI_165)))))))))))))))))))))))))))))))))))))))))))))))))))))))))))
theorem c_l6Try (p : List Cl) (hp : ∀ c ∈ p, ClX c ∧ c.2.length ≤ 6) (gs0 : List RG) (σ0 : List AV) (cs : List RC) (c : RC) (hc : RcOk p c) (h0 : 0 < c.N) (hN : c.N ≤ 524288) (hcl : cs.length ≤ 524288) (st : zy7) :
 zq7 prog 146 [.slice (p.map clAv), .agg [.slice (gs0.map rgAv), .slice σ0, .slice (cs.map rcAv)], rcAv c] st (fun r st' => st' = st ∧ r = match rTry p cs c.goal c.rest c.σ c.N c.left with
  | some s => .tup [rsAv s, .bool true]
  | none => .tup [.agg [.slice (gs0.map rgAv), .slice σ0, .slice (cs.map rcAv)], .bool false]) := by
 obtain ⟨goal, rest, left, σ, N⟩ := c
 obtain ⟨hg, ho, hd, hgo, hr, hle, hrl, hll⟩ := hc
 simp only at hg ho hd hgo hr hle hrl hll h0 hN
 obtain ⟨gk, gn, gs', gts⟩ := goal
 rw [rcAv_mk]
 refine zq7.fin (zq7.fin (zq7.dropS ?_))
 refine wF [1000000, 13] 3 func146 ntmps146 rfl rfl ?_
 intro _
 simp -implicitDefEqProofs only [zy4, List.length_map, evF, ↓evZ, implies_true, seval, tf_R4_146]
 intro b6 h6
 generalize hW : st.upd b6 (.cells [.fslice [], .fslice [], .fslice []]) = W
 have hW6 : W b6 = some (.cells [.fslice [], .fslice [], .fslice []]) := by rw [← hW]; exact zy7.upd_same _ _ _
 have hDW : Drops W st := by rw [← hW]; exact (Drops.refl _).upd h6
 refine zy5 (σ := Unit) [1000000] [0, 4, 5, 6] left (fun i _ => rTry p cs (.mk gk gn gs' gts) rest σ N (left.drop i) = rTry p cs (.mk gk gn gs' gts) rest σ N left) (fun i _ => [(7, .bool false), (8, .int .i64 i)]) (fun _ _ => W) (by decide +kernel) ⟨(), rfl, zx7.mk (by simp -implicitDefEqProofs only [zy4, List.length_map, evF, ↓evZ, implies_true, seval, tf_R4_146])⟩ (fun i x _ hx hlt hlt' hdr hinv => ?_) (fun _ hge hinv => ?_)
 case refine_2 =>
  simp -implicitDefEqProofs only [hge, zy4, hW6, List.length_map, evF, ↓evZ, implies_true, seval, tf_R4_146]
  refine ⟨st, ?_, 0, [], st, rfl, by simp, by simp, ⟨0, by simp⟩, 0, [], st, rfl, by simp, by simp, ⟨0, by simp⟩, rfl, ?_⟩
  · intro z
    have := hDW z
    by_cases hz : z = b6
    · subst hz; simp [zy7.upd, h6]
    · rw [zy7.upd_ne _ _ hz]; exact this
  · rw [← hinv, List.drop_length]
    simp only [fin_agg, fin_tup, fin_int, fin_bool, fin_str, fin_slice, fin_fslice, fin_pptr, fin_ptr, fin_func, fin_map, fin_undef, fin_accV, tm_fin, List.map_cons, List.map_nil, rTry]
 have hw := wrap64 (n := (i : Int) + 1) (by omega) (by omega)
 have hxl := hle x (List.mem_of_getElem? hx)
 obtain ⟨cl, hcx⟩ : ∃ cl, p[x]? = some cl := ⟨_, List.getElem?_eq_getElem hxl⟩
 obtain ⟨hclx, hcl6⟩ := hp cl (List.mem_of_getElem? hcx)
 rw [hdr, rTry.eq_def] at hinv
 simp only [hcx] at hinv
 have hat : aIndexAddr prog 58 (.slice (left.map nv)) (.int .i64 (i : Int)) = some (.pptr (.int .i64 (x : Int))) := ev_at (av := nv) eI_58 hx rfl
 have hatc := ev_at (av := clAv) (P := prog) eI_29 hcx (clAv_width cl)
 have hcf := c_l6Fresh cl hclx hcl6
 obtain ⟨⟨k, n, s', ts⟩, bd⟩ := cl
 rw [clAv_mk] at hatc hcf
 simp only at hinv
 simp -implicitDefEqProofs only [hlt', zy4, hW6, List.length_map, arrN_len, hat, hatc, hw, evF, ↓evZ, implies_true, seval, tf_R4_146]
 refine wX [(0, 1), (1, 1), (2, 1), (4, 1), (3, 0), (5, 0), (6, 0), (7, 1)] [0, 1, 2, 4, 7] none0' mixed rfl ext_none ?_
 simp -implicitDefEqProofs only [zy4, hW6, List.length_map, arrN_len, hat, hatc, hw, evF, ↓evZ, implies_true, seval, tf_R4_146]
 have hfr := hclx.fr.1
 have hHd := hclx.shf N (.mk k n s' ts) (by simp)
 have hBd := fun t ht => (hclx.okAll t (List.mem_cons_of_mem _ ht))
 refine app_arrN h0 (by omega) σ fun b hb hA0 => ?_
 simp -implicitDefEqProofs only [zy4, hW6, List.length_map, arrN_len, hat, hatc, hw, evF, ↓evZ, implies_true, seval, tf_R4_146]
 refine ⟨ext_none, ?_⟩
 refine (hcf _).to ?_
 simp -implicitDefEqProofs only [zy4, hW6, List.length_map, arrN_len, hat, hatc, hw, evF, ↓evZ, implies_true, seval, tf_R4_146]
 refine ⟨ext_none, ?_⟩
 refine app_zeros hd (by omega) hb fun b11 h11 => ?_
 simp -implicitDefEqProofs only [zy4, hW6, List.length_map, arrN_len, hat, hatc, hw, evF, ↓evZ, implies_true, seval, tf_R4_146]
 refine ⟨ext_none, ?_⟩
 have hA := (show ArrN (N + frN (.mk k n s' ts, bd)) (W.upd b11 (.cells ((arrN (N + frN (.mk k n s' ts, bd)) σ).flatMap AV.cells))) b11 σ from zy7.upd_same _ _ _)
 have hDT : Drops (W.upd b11 (.cells ((arrN (N + frN (.mk k n s' ts, bd)) σ).flatMap AV.cells))) W := (Drops.refl _).upd h11
 have hh := hclx.head
 generalize frN (.mk k n s' ts, bd) = fr at *
 generalize W.upd b11 (.cells ((arrN (N + fr) σ).flatMap AV.cells)) = T at *
 have hsh : Tm.sh (N : Int) (.mk k n s' ts) = shf N (.mk k n s' ts) := sh_shf N (by omega) _ hh.1
 have hcs := c_l3Shift (N : Int) (.mk k n s' ts)
 rw [hsh] at hcs
 have hun := cN_l3UnifyG (N := N + fr) (by omega) hg (ho.upN (by omega)) (.mk gk gn gs' gts) (shf N (.mk k n s' ts)) (hgo.mono (by omega)) hHd b11
 generalize shf N (.mk k n s' ts) = y at *
 obtain ⟨yk, yn, ys, yt⟩ := y
 refine wX [(0, 1), (1, 1), (2, 1), (3, 1), (4, 1), (6, 1), (5, 0), (7, 0), (8, 1)] [0, 1, 2, 3, 4, 6, 8] none0' mixed rfl ext_none ?_
 simp -implicitDefEqProofs only [zy4, hW6, List.length_map, arrN_len, hat, hatc, hw, evF, ↓evZ, implies_true, seval, tf_R4_146]
 have hsm := hh.1.small
 simp only [Tm.av_mk] at hun hcs ⊢
 refine (hcs _ hsm).to ?_
 simp -implicitDefEqProofs only [zy4, hW6, List.length_map, arrN_len, hat, hatc, hw, evF, ↓evZ, implies_true, seval, tf_R4_146]
 refine ⟨ext_none, ?_⟩
 refine (hun _ hA).mono ?_
 rintro _ s2 ⟨rfl, hA2, hk2⟩
 simp -implicitDefEqProofs only [zy4, hW6, List.length_map, arrN_len, hat, hatc, hw, evF, ↓evZ, implies_true, seval, tf_R4_146]
 refine ⟨ext_none, ?_⟩
 generalize uniG σ (.mk gk gn gs' gts) (.mk yk yn ys yt) = u at *
 obtain ⟨r, σ', tr⟩ := u
 simp only at hinv hA2 ⊢
 have hW11 : W b11 = none := h11
 have hDs : Drops s2 W := by
  intro q
  have key : ∀ o, W q = some o → s2 q = some o := fun o h => hk2 q o ((hDT q).2 o h) (by rintro rfl; rw [hW11] at h; cases h)
  refine ⟨fun h => ?_, key⟩
  cases hq : W q with
  | none => rfl
  | some o => rw [key o hq] at h; cases h
 refine zq4 (fun h => ?_) (fun h => ?_)
 · have hr : r = false := by simpa using h
   rw [if_neg (by rw [hr]; simp)] at hinv
   simp -implicitDefEqProofs only [hw, zy4, hW6, List.length_map, arrN_len, hat, hatc, hw, evF, ↓evZ, implies_true, seval, tf_R4_146]
   exact ⟨(), hinv, zx7.drop hDs (by simp -implicitDefEqProofs only [zy4, hW6, List.length_map, arrN_len, hat, hatc, hw, evF, ↓evZ, implies_true, seval, tf_R4_146])⟩
 have hr' : r = true := by simpa using h
 rw [if_pos hr'] at hinv
 have hg9 := c_l6Goals bd N cs.length rest hBd hcl6 (by omega) (by omega)
 generalize hgs : bd.map (fun t => (⟨shf N t, cs.length⟩ : RG)) ++ rest = gs2 at *
 simp -implicitDefEqProofs only [zy4, hW6, List.length_map, arrN_len, hat, hatc, hw, evF, ↓evZ, implies_true, seval, tf_R4_146]
 refine wP [(0, 1), (1, 1), (3, 1), (5, 1), (6, 1), (7, 1), (2, 2), (4, 2), (8, 2), (9, 1), (10, 1), (11, 0), (12, 0)] [0, 1, 3, 5, 6, 7, 2, 4, 8, 9, 10] mixed ?_
 simp -implicitDefEqProofs only [zy4, hW6, List.length_map, arrN_len, hat, hatc, hw, evF, ↓evZ, implies_true, seval, tf_R4_146]
 refine callF_mk hg9 ?_
 simp -implicitDefEqProofs only [zy4, hW6, List.length_map, arrN_len, hat, hatc, hw, evF, ↓evZ, implies_true, seval, tf_R4_146]
 intro b13 h13
 have h1311 : b13 ≠ b11 := by rintro rfl; rw [ArrN, h13] at hA2; cases hA2
 have h62 : s2 b6 ≠ none := by rw [(hDs b6).2 _ hW6]; simp
 have h136 : b6 ≠ b13 := by rintro rfl; exact h62 h13
 have h116 : b6 ≠ b11 := by rintro rfl; rw [hW6] at hW11; cases hW11
 have hst11 : st b11 = none := (hDW b11).1 hW11
 have hW62 := (hDs b6).2 _ hW6
 have hNf : 0 < N + fr := by omega
 have harr : arrN (N + fr) σ' ≠ [] := by intro e; have := arrN_len (N + fr) σ'; rw [e] at this; simp at this; omega
 refine zq4 (fun h => ?_) (fun h => ?_)
 · have h' : i + 1 < left.length := by simp at h; omega
   have hsl := fun (φ : AF) (d : Nat) (h : φ d = .int .i64 ((i : Int) + 1)) => slice_nv h' h
   simp -implicitDefEqProofs only [zy4, hsl, hw, evF, ↓evZ, implies_true, seval, tf_R4_146]
   refine wP [(0, 1), (2, 1), (4, 1), (6, 1), (7, 1), (9, 1), (1, 2), (3, 2), (5, 2), (8, 1), (10, 2), (11, 1), (12, 0), (13, 0)] [0, 2, 4, 6, 7, 9, 1, 3, 5, 8, 10, 11] mixed ?_
   simp -implicitDefEqProofs only [zy4, hsl, hw, evF, ↓evZ, implies_true, seval, tf_R4_146]
   intro b14 h14
   have hne14 : b14 ≠ b13 := by rintro rfl; rw [zy7.upd_same] at h14; cases h14
   have h142 : s2 b14 = none := by rw [zy7.upd_ne _ _ hne14] at h14; exact h14
   have h614 : b6 ≠ b14 := by rintro rfl; exact h62 h142
   generalize hV : (s2.upd b13 (AO.cells [AV.slice (gs2.map rgAv), AV.mslice b11 0 (N + fr) 4, AV.slice (cs.map rcAv)])).upd b14 (.cells [.int .i64 gk, .int .i64 gn, .str gs', .slice (gts.map Tm.av), .slice (rest.map rgAv), .slice ((left.drop (i + 1)).map nv), .slice (arrN N σ)]) = V
   have hV14 : V b14 = some (.cells [.int .i64 gk, .int .i64 gn, .str gs', .slice (gts.map Tm.av), .slice (rest.map rgAv), .slice ((left.drop (i + 1)).map nv), .slice (arrN N σ)]) := by rw [← hV]; exact zy7.upd_same _ _ _
   have hV13 : V b13 = some (AO.cells [AV.slice (gs2.map rgAv), AV.mslice b11 0 (N + fr) 4, AV.slice (cs.map rcAv)]) := by rw [← hV, zy7.upd_ne _ _ (Ne.symm hne14)]; exact zy7.upd_same _ _ _
   have hV6 : V b6 = some (.cells [.fslice [], .fslice [], .fslice []]) := by rw [← hV, zy7.upd_ne _ _ h614, zy7.upd_ne _ _ h136]; exact hW62
   have hVq : ∀ q, q ≠ b13 → q ≠ b14 → V q = s2 q := fun q e1 e2 => by rw [← hV, zy7.upd_ne _ _ e2, zy7.upd_ne _ _ e1]
   refine wX [(0, 1), (1, 1), (2, 1), (4, 1), (5, 1), (3, 0), (6, 0), (7, 1), (8, 2)] [0, 1, 2, 4, 5, 7] (one b14 (.cells [.int .i64 gk, .int .i64 gn, .str gs', .slice (gts.map Tm.av), .slice (rest.map rgAv), .slice ((left.drop (i + 1)).map nv), .slice (arrN N σ)])) mixed rfl (ext_one hV14) ?_
   simp -implicitDefEqProofs only [one_same, zy4, hsl, hw, evF, ↓evZ, implies_true, seval, tf_R4_146]
   have hlc : (cs.map rcAv).length = cs.length := List.length_map _
   refine acc_append (P := prog) (b := 0) (l := []) (xs := cs.map rcAv) eI_109 eB_109 eZ_109 rfl rfl (by intro e he; simp only [List.mem_map] at he; obtain ⟨t, _, rfl⟩ := he; exact ⟨rcAv_width t, rcAv_store t⟩) (by simp) (by simp) (by simp only [List.length_nil, hlc]; omega) (by simp only [List.length_nil, hlc]; omega) (fun b15 h15 => ?_)
   rw [List.nil_append] at h15 ⊢
   simp -implicitDefEqProofs only [one_same, zy4, hsl, hw, evF, ↓evZ, implies_true, seval, tf_R4_146]
   refine ⟨ext_one (accS_other h15 hV14), ?_⟩
   refine acc_append (P := prog) (b := b15) (l := cs.map rcAv) (xs := [rcAv ⟨.mk gk gn gs' gts, rest, left.drop (i + 1), σ, N⟩]) eI_109 eB_109 eZ_109 rfl rfl (by intro e he; simp only [List.mem_cons, List.not_mem_nil, or_false] at he; subst he; exact ⟨rfl, rfl⟩) (by intro e he; simp only [List.mem_map] at he; obtain ⟨t, _, rfl⟩ := he; exact rcAv_width t) h15 (by simp only [List.length_cons, List.length_nil, hlc]; omega) (by simp only [List.length_cons, List.length_nil, hlc]; omega) (fun b16 h16 => ?_)
   rw [show (cs.map rcAv) ++ [rcAv ⟨.mk gk gn gs' gts, rest, left.drop (i + 1), σ, N⟩] = (cs ++ [(⟨.mk gk gn gs' gts, rest, left.drop (i + 1), σ, N⟩ : RC)]).map rcAv by simp] at h16 ⊢
   have g13 := accS_other h16 hV13
   have g14 := accS_other h16 hV14
   have g6 := accS_other h16 hV6
   have hdn : left.drop (i + 1) ≠ [] := by intro e; have := congrArg List.length e; simp at this; omega
   rw [if_neg hdn] at hinv
   generalize hLL : cs ++ [(⟨.mk gk gn gs' gts, rest, left.drop (i + 1), σ, N⟩ : RC)] = LL at *
   have E := try_end (o' := .cells [AV.slice (gs2.map rgAv), AV.mslice b11 0 (N + fr) 4, accV 7 b16 (LL.map rcAv)]) (o6 := .cells [AV.slice (gs2.map rgAv), AV.mslice b11 0 (N + fr) 4, accV 7 b16 (LL.map rcAv)]) (hDs.trans hDW) hA2 hst11 h6 h62 h116 h13 h142 hVq (by rw [hV13]; simp) (by rw [hV14]; simp) h16 harr
   simp -implicitDefEqProofs only [zy4, h136, g13, g14, g6, one_same, accV_store, accV_cells, evF, ↓evZ, implies_true, seval, tf_R4_146]
   have hms : LL.map rcAv ≠ [] → b11 ≠ b16 := by rintro h rfl; have := h16 h; rw [hVq b11 (Ne.symm h1311) (by rintro rfl; rw [ArrN, h142] at hA2; cases hA2), hA2] at this; cases this
   refine ⟨ext_one g14, _, E.1, b16, LL.map rcAv, _, rfl, fun h => E.2 (by simpa using h), rc_junk LL, ⟨7, rc_widths LL⟩, b11, arrN (N + fr) σ', st, rfl, fun _ => hst11, arrN_junk _ _, ⟨4, arrN_widths _ _⟩, rfl, ?_⟩
   rw [← hinv]
   simp only [fin_agg, fin_tup, fin_int, fin_bool, fin_str, fin_slice, fin_fslice, fin_pptr, fin_ptr, fin_func, fin_map, fin_undef, fin_accV, tm_fin, List.map_cons, List.map_nil, fin_msN hms, fin_arrN hNf]
   rfl
 · have h' : left.drop (i + 1) = [] := List.drop_eq_nil_of_le (by simp at h; omega)
   have E := try_end (o6 := .cells [AV.slice (gs2.map rgAv), AV.mslice b11 0 (N + fr) 4, AV.slice (cs.map rcAv)]) (o' := .cells [AV.slice (gs2.map rgAv), AV.mslice b11 0 (N + fr) 4, AV.slice (cs.map rcAv)]) (b := 0) (L := []) (hDs.trans hDW) hA2 hst11 h6 h62 h116 h13 h13 (fun q h _ => zy7.upd_ne s2 (.cells [AV.slice (gs2.map rgAv), AV.mslice b11 0 (N + fr) 4, AV.slice (cs.map rcAv)]) h) (by rw [zy7.upd_same]; simp) (by rw [zy7.upd_same]; simp) (by simp) harr
   simp -implicitDefEqProofs only [zy4, h136, h1311, hW62, zy7.upd_same, evF, ↓evZ, implies_true, seval, tf_R4_146]
   rw [if_pos h'] at hinv
   have E1 := E.1
   simp only [accS, zy7.upd_upd] at E1
   refine ⟨_, E1, 0, [], _, rfl, by simp, by simp, ⟨0, by simp⟩, b11, arrN (N + fr) σ', st, rfl, fun _ => hst11, arrN_junk _ _, ⟨4, arrN_widths _ _⟩, rfl, ?_⟩
   rw [← hinv]
   simp only [fin_agg, fin_tup, fin_int, fin_bool, fin_str, fin_slice, fin_fslice, fin_pptr, fin_ptr, fin_func, fin_map, fin_undef, fin_accV, tm_fin, List.map_cons, List.map_nil, fin_msN (l := []) (fun h => absurd rfl h), fin_arrN hNf]
   rfl
theorem rTry_ok {p : List Cl} (hp : ∀ c ∈ p, ClX c ∧ c.2.length ≤ 6) {B : Nat} (hB : B ≤ 524288) {cs : List RC} {goal : Tm} {rest : List RG} {σ : Sub} {N : Nat} (hg : IsGood σ) (ho : AllS (OkX N) σ) (hd : ∀ n, ¬(0 ≤ n ∧ n < (N : Int)) → σ n = none)
 (hgo : OkX N goal) (hr : ∀ g ∈ rest, OkX N g.t ∧ g.t.k = 3) (h0 : 0 < N) (hN : N + 26 ≤ B) (hrl : rest.length + 26 ≤ B) (hcl : cs.length + 1 ≤ B) (hcs : ∀ c ∈ cs, RcOk p c ∧ c.N + 26 ≤ B ∧ c.rest.length + 26 ≤ B ∧ 0 < c.N) :
 ∀ (left : List Nat), (∀ i ∈ left, i < p.length) → left.length ≤ 1048576 → ∀ s, rTry p cs goal rest σ N left = some s → RsOk p B s
 | [], _, _, s, h => by simp [rTry] at h
 | i :: l, hle, hll, s, h => by
  have hil := hle i (by simp)
  obtain ⟨x, hx⟩ : ∃ x, p[i]? = some x := ⟨_, List.getElem?_eq_getElem hil⟩
  obtain ⟨hX, h6⟩ := hp x (List.mem_of_getElem? hx)
  have hl' : ∀ j ∈ l, j < p.length := fun j hj => hle j (by simp [hj])
  rw [rTry.eq_def] at h
  simp only [hx] at h
  split at h
  case isFalse => exact rTry_ok hp hB hg ho hd hgo hr h0 hN hrl hcl hcs l hl' (by simp at hll; omega) s h
  cases h
  have hfr := hX.fr.1
  have hsh := hX.shf N
  obtain ⟨r, σ', tr, U⟩ := uniG_of (N := N + frN x) hg (ho.upN (by omega)) (hgo.mono (by omega)) (hsh x.1 (by simp))
  rw [U.eq]
  have S := U.sol
  refine ⟨S.good, S.ok, fun n hn => ?_, ?_, by simp only; omega, by simp only; omega, ?_, ?_, ?_⟩
  · simp only at hn ⊢
    rw [S.keep n (fun h => hn (S.inN n h))]
    exact hd n (fun h => hn (by omega))
  · intro g hg'
    simp only [List.mem_append, List.mem_map] at hg'
    rcases hg' with ⟨t, ht, rfl⟩ | hg'
    · exact ⟨hsh t (List.mem_cons_of_mem _ ht), by rw [shf_k]; exact (hX.body t ht).2⟩
    · exact ⟨(hr g hg').1.mono (by simp only; omega), (hr g hg').2⟩
  · simp only [List.length_append, List.length_map]; omega
  · simp only
    split
    · omega
    · simp only [List.length_append, List.length_cons, List.length_nil]; omega
  · simp only
    split
    · exact hcs
    · intro c hc
      rcases List.mem_append.1 hc with hc | hc
      · exact hcs c hc
      · simp only [List.mem_cons, List.not_mem_nil, or_false] at hc
        subst hc
        exact ⟨⟨hg, ho, hd, hgo, hr, hl', by simp only; omega, by simp only; simp at hll; omega⟩, hN, hrl, h0⟩
theorem rBack_eq (p : List Cl) (chs : List RC) : rBack p chs.length chs = match chs.getLast? with
 | none => none
 | some c => match rTry p chs.dropLast c.goal c.rest c.σ c.N c.left with
  | some s => some s
  | none => rBack p chs.dropLast.length chs.dropLast := by
 cases chs with
 | nil => rfl
 | cons c l =>
  rw [List.length_cons, rBack]
  have : (c :: l).dropLast.length = l.length := by simp
  rw [this]
  rfl
theorem rBack_ok {p : List Cl} (hp : ∀ c ∈ p, ClX c ∧ c.2.length ≤ 6) {B : Nat} (hB : B ≤ 524288) : ∀ (n : Nat) (chs : List RC), chs.length ≤ B → (∀ c ∈ chs, RcOk p c ∧ c.N + 26 ≤ B ∧ c.rest.length + 26 ≤ B ∧ 0 < c.N) → ∀ s, rBack p n chs = some s → RsOk p B s
 | 0, _, _, _, s, h => by simp [rBack] at h
 | n + 1, chs, hl, hc, s, h => by
  rw [rBack] at h
  split at h
  · cases h
  · rename_i c hlast
    have hm := List.mem_of_getLast? hlast
    have hne : chs ≠ [] := by rintro rfl; simp at hm
    have hdl : chs.dropLast.length + 1 = chs.length := by
     have := List.length_pos_iff.2 hne
     simp; omega
    have hcd : ∀ c ∈ chs.dropLast, RcOk p c ∧ c.N + 26 ≤ B ∧ c.rest.length + 26 ≤ B ∧ 0 < c.N := fun c h => hc c (List.dropLast_subset _ h)
    obtain ⟨k, h1, h2, h3⟩ := hc c hm
    split at h
    · rename_i s' hs
      cases h
      exact rTry_ok hp hB k.good k.ok k.dom k.goal k.rest h3 h1 h2 (by omega) hcd c.left k.left k.llen s hs
    · exact rBack_ok hp hB n _ (by omega) hcd s h
theorem RsOk.up {p : List Cl} {B C : Nat} {s : RS} (h : RsOk p B s) (hC : B ≤ C) : RsOk p C s :=
 ⟨h.good, h.ok, h.dom, h.goals, h.pos, by have := h.hN; omega, by have := h.gl; omega, by have := h.chl; omega, fun c hc => by
  obtain ⟨h1, h2, h3, h4⟩ := h.chs c hc
  exact ⟨h1, by omega, by omega, h4⟩⟩
theorem RsOk.back {p : List Cl} (hp : ∀ c ∈ p, ClX c ∧ c.2.length ≤ 6) {B : Nat} (hB : B ≤ 524288) {s s' : RS} (h : RsOk p B s) (e : rBack p s.chs.length s.chs = some s') : RsOk p B s' :=
 rBack_ok hp hB _ _ h.chl h.chs s' e
theorem fit_ok {N : Nat} {σ : Sub} (hg : IsGood σ) (ho : AllS (OkX N) σ) {t : Tm} (ht : OkX N t) (hf : fitT (t.mapv (rs σ)) = true) : OkX N (t.mapv (rs σ)) := by
 obtain ⟨rk, B, G⟩ := hg.rs
 unfold fitT at hf
 simp only [Bool.and_eq_true, decide_eq_true_eq] at hf
 exact ⟨ht.1.mapv fun v hv => G.okV ho.okV v (ht.1.2.2 v hv).1 (ht.1.2.2 v hv).2, hf.2⟩
theorem RsOk.step {p : List Cl} (hp : ∀ c ∈ p, ClX c ∧ c.2.length ≤ 6) (hpl : p.length ≤ 1048576) {B : Nat} (hB : B + 26 ≤ 524288) {cnd : Tm → List Nat → List Nat} (hc : ∀ t l, (∀ i ∈ cnd t l, i ∈ l) ∧ (cnd t l).length ≤ l.length) {s s' : RS} {g : RG} {rest : List RG} (hgs : s.goals = g :: rest) (h : RsOk p B s)
 (e : rStep p cnd s g rest = .go s') : RsOk p (B + 26) s' := by
 have hgm : g ∈ s.goals := by rw [hgs]; simp
 have hrm : ∀ x ∈ rest, x ∈ s.goals := fun x hx => by rw [hgs]; simp [hx]
 have hgl := h.gl
 rw [hgs, List.length_cons] at hgl
 have hU := h.up (C := B + 26) (by omega)
 unfold rStep at e
 split at e
 · cases e
 rename_i hfit
 have hfit' : fitT (g.t.mapv (rs s.σ)) = true := by simpa using hfit
 have hok := fit_ok h.good h.ok (h.goals g hgm).1 hfit'
 generalize g.t.mapv (rs s.σ) = t at *
 split at e
 · cases e
   exact ⟨hU.good, hU.ok, hU.dom, fun x hx => hU.goals x (hrm x hx), hU.pos, hU.hN, by simp only; omega, by simp only [List.length_take]; have := hU.chl; omega, fun c hc => hU.chs c (List.mem_of_mem_take hc)⟩
 split at e
 · split at e
   · cases e
     have S := solveG_sol h.good h.ok t.s t.ts fun x hx => by
      obtain ⟨k, n, s', ts⟩ := t
      by_cases hk : k = 1
      · obtain ⟨_, _, _, h2⟩ := (show OkV s.N (.mk 1 n s' ts) from hk ▸ hok.1).var
        simp only [Tm.ts] at hx
        rw [h2] at hx; cases hx
      · exact okX_kids _ (.mk k n s' ts) hk hok x hx
     exact ⟨S.good, S.ok, fun n hn => by simp only at hn ⊢; rw [S.keep n (fun h => hn (S.inN n h))]; exact hU.dom n hn, fun x hx => hU.goals x (hrm x hx), hU.pos, hU.hN, by simp only; omega, hU.chl, hU.chs⟩
   · split at e <;> cases e
 split at e
 · cases e
 split at e
 case h_2 => cases e
 rename_i s2 hs
 cases e
 obtain ⟨c1, c2⟩ := hc t (forL p t)
 have hfl : (forL p t).length ≤ p.length := by rw [forL_eq]; exact forT_len p t p.length
 refine rTry_ok hp (by omega) h.good h.ok h.dom hok (fun x hx => h.goals x (hrm x hx)) h.pos (by have := h.hN; omega) (by omega) (by have := h.chl; omega) hU.chs _ (fun i hi => ?_) (by omega) s' hs
 have := c1 i hi
 unfold forL at this
 have := (List.mem_filter.1 this).1
 exact List.mem_range.1 this
def Keeps (n : Nat) (l : List RG) : Prop := l.Pairwise (fun a b => b.keep ≤ a.keep) ∧ ∀ g ∈ l, g.keep ≤ n
theorem Keeps.up {n m : Nat} {l : List RG} (h : Keeps n l) (hm : n ≤ m) : Keeps m l := ⟨h.1, fun g hg => Nat.le_trans (h.2 g hg) hm⟩
theorem Keeps.tail {n : Nat} {g : RG} {l : List RG} (h : Keeps n (g :: l)) : Keeps n l ∧ Keeps g.keep l := by
 obtain ⟨h1, h2⟩ := h
 rw [List.pairwise_cons] at h1
 exact ⟨⟨h1.2, fun x hx => h2 x (by simp [hx])⟩, h1.2, h1.1⟩
theorem Keeps.body {n : Nat} {l : List RG} (h : Keeps n l) (f : Tm → Tm) (bd : List Tm) : Keeps n (bd.map (fun t => (⟨f t, n⟩ : RG)) ++ l) := by
 refine ⟨List.pairwise_append.2 ⟨?_, h.1, fun a ha b hb => ?_⟩, fun g hg => ?_⟩
 · rw [List.pairwise_map]
   exact List.pairwise_of_forall fun _ _ => Nat.le_refl _
 · obtain ⟨t, _, rfl⟩ := List.mem_map.1 ha
   exact h.2 b hb
 · rcases List.mem_append.1 hg with hg | hg
   · obtain ⟨t, _, rfl⟩ := List.mem_map.1 hg
     exact Nat.le_refl _
   · exact h.2 g hg
structure RsK (s : RS) : Prop where
 goals : Keeps s.chs.length s.goals
 chs : ∀ i c, s.chs[i]? = some c → Keeps i c.rest
theorem rTry_K {p : List Cl} {cs : List RC} {goal : Tm} {rest : List RG} {σ : Sub} {N : Nat} (hr : Keeps cs.length rest) (hc : ∀ i c, cs[i]? = some c → Keeps i c.rest) :
 ∀ (left : List Nat) s, rTry p cs goal rest σ N left = some s → RsK s
 | [], s, h => by simp [rTry] at h
 | i :: l, s, h => by
  rw [rTry.eq_def] at h
  simp only at h
  split at h
  · cases h
  rename_i x hx
  split at h
  case isFalse => exact rTry_K hr hc l s h
  cases h
  have hb := hr.body (shf N) x.2
  refine ⟨?_, ?_⟩
  · simp only
    split
    · exact hb
    · exact hb.up (by simp)
  · simp only
    intro j c hj
    split at hj
    · exact hc j c hj
    · rw [List.getElem?_append] at hj
      split at hj
      · exact hc j c hj
      · rename_i hlt
        have hj0 : j - cs.length = 0 := by
         have := (List.getElem?_eq_some_iff.1 hj).1
         simp at this; omega
        rw [hj0] at hj
        simp only [List.getElem?_cons_zero, Option.some.injEq] at hj
        subst hj
        exact hr.up (by omega)
theorem rBack_K {p : List Cl} : ∀ (n : Nat) (chs : List RC), (∀ i c, chs[i]? = some c → Keeps i c.rest) → ∀ s, rBack p n chs = some s → RsK s
 | 0, _, _, s, h => by simp [rBack] at h
 | n + 1, chs, hc, s, h => by
  rw [rBack] at h
  split at h
  · cases h
  · rename_i c hlast
    have hd : ∀ i c, chs.dropLast[i]? = some c → Keeps i c.rest := fun i c hi => hc i c (by
     rw [List.dropLast_eq_take, List.getElem?_take] at hi
     split at hi
     · exact hi
     · cases hi)
    rw [List.getLast?_eq_getElem?] at hlast
    have hk := hc _ _ hlast
    split at h
    · rename_i s' hs
      cases h
      exact rTry_K (by rw [List.length_dropLast]; exact hk) hd _ s hs
    · exact rBack_K n _ hd s h
theorem RsK.step {p : List Cl} {cnd : Tm → List Nat → List Nat} {s s' : RS} {g : RG} {rest : List RG} (hgs : s.goals = g :: rest) (h : RsK s) (e : rStep p cnd s g rest = .go s') : RsK s' := by
 have hg := h.goals
 rw [hgs] at hg
 obtain ⟨h1, h2⟩ := hg.tail
 have h3 := hg.2 g (by simp)
 unfold rStep at e
 split at e
 · cases e
 split at e
 · cases e
   refine ⟨?_, fun i c hi => ?_⟩
   · simp only [List.length_take]
     exact h2.up (by omega)
   · simp only [List.getElem?_take] at hi
     split at hi
     · exact h.chs i c hi
     · cases hi
 split at e
 · split at e
   · cases e
     exact ⟨h1, h.chs⟩
   · split at e <;> cases e
 split at e
 · cases e
 split at e
 case h_2 => cases e
 rename_i s2 hs
 cases e
 exact rTry_K h1 h.chs _ s' hs
def RsL (s : RS) : Prop := 26 ≤ s.N ∧ ∀ c ∈ s.chs, 26 ≤ c.N
theorem rTry_L {p : List Cl} {cs : List RC} {goal : Tm} {rest : List RG} {σ : Sub} {N : Nat} (hN : 26 ≤ N) (hc : ∀ c ∈ cs, 26 ≤ c.N) :
 ∀ (left : List Nat) s, rTry p cs goal rest σ N left = some s → RsL s
 | [], s, h => by simp [rTry] at h
 | i :: l, s, h => by
  rw [rTry.eq_def] at h
  simp only at h
  split at h
  · cases h
  rename_i x hx
  split at h
  case isFalse => exact rTry_L hN hc l s h
  cases h
  refine ⟨by simp only; omega, ?_⟩
  simp only
  split
  · exact hc
  · intro c h
    rcases List.mem_append.1 h with h | h
    · exact hc c h
    · simp only [List.mem_cons, List.not_mem_nil, or_false] at h
      subst h; exact hN
theorem rBack_L {p : List Cl} : ∀ (n : Nat) (chs : List RC), (∀ c ∈ chs, 26 ≤ c.N) → ∀ s, rBack p n chs = some s → RsL s
 | 0, _, _, s, h => by simp [rBack] at h
 | n + 1, chs, hc, s, h => by
  rw [rBack] at h
  split at h
  · cases h
  · rename_i c hlast
    have hd : ∀ c ∈ chs.dropLast, 26 ≤ c.N := fun c h => hc c (List.dropLast_subset _ h)
    split at h
    · rename_i s' hs
      cases h
      exact rTry_L (hc c (List.mem_of_getLast? hlast)) hd _ s hs
    · exact rBack_L n _ hd s h
theorem RsL.step {p : List Cl} {cnd : Tm → List Nat → List Nat} {s s' : RS} {g : RG} {rest : List RG} (h : RsL s) (e : rStep p cnd s g rest = .go s') : RsL s' := by
 unfold rStep at e
 split at e
 · cases e
 split at e
 · cases e
   exact ⟨h.1, fun c hc => h.2 c (List.mem_of_mem_take hc)⟩
 split at e
 · split at e
   · cases e
     exact h
   · split at e <;> cases e
 split at e
 · cases e
 split at e
 case h_2 => cases e
 rename_i s2 hs
 cases e
 exact rTry_L h.1 h.2 _ s' hs
structure RsA (p : List Cl) (B : Nat) (s : RS) : Prop where
 a : RsOk p B s
 k : RsK s
 l : RsL s
theorem RsA.step {p : List Cl} (hp : ∀ c ∈ p, ClX c ∧ c.2.length ≤ 6) (hpl : p.length ≤ 1048576) {B : Nat} (hB : B + 26 ≤ 524288) {cnd : Tm → List Nat → List Nat} (hc : ∀ t l, (∀ i ∈ cnd t l, i ∈ l) ∧ (cnd t l).length ≤ l.length) {s s' : RS} {g : RG} {rest : List RG} (hgs : s.goals = g :: rest) (h : RsA p B s)
 (e : rStep p cnd s g rest = .go s') : RsA p (B + 26) s' := ⟨h.a.step hp hpl hB hc hgs e, h.k.step hgs e, h.l.step e⟩
theorem RsA.back {p : List Cl} (hp : ∀ c ∈ p, ClX c ∧ c.2.length ≤ 6) {B : Nat} (hB : B ≤ 524288) {s s' : RS} (h : RsA p B s) (e : rBack p s.chs.length s.chs = some s') : RsA p B s' :=
 ⟨h.a.back hp hB e, rBack_K _ _ h.k.chs s' e, rBack_L _ _ h.l.2 s' e⟩
theorem RsA.up {p : List Cl} {B C : Nat} {s : RS} (h : RsA p B s) (hC : B ≤ C) : RsA p C s := ⟨h.a.up hC, h.k, h.l⟩
theorem RsA.start {p : List Cl} {q : List Tm} (hq : ∀ t ∈ q, OkX 26 t ∧ t.k = 3) (h6 : q.length ≤ 6) : RsA p 26 (rStart q) := by
 refine ⟨⟨IsGood.none, fun n u h => (by cases h), fun n _ => rfl, ?_, (by show 0 < 26; omega), Nat.le_refl _, ?_, Nat.zero_le _, fun c hc => (by cases hc)⟩, ⟨⟨?_, ?_⟩, fun i c hi => (by cases hi)⟩, ⟨Nat.le_refl _, fun c hc => (by cases hc)⟩⟩
 · intro g hg
   simp only [rStart, List.mem_map] at hg
   obtain ⟨t, ht, rfl⟩ := hg
   exact hq t ht
 · simp only [rStart, List.length_map]; omega
 · simp only [rStart, List.pairwise_map]
   exact List.pairwise_of_forall fun _ _ => Nat.le_refl _
 · intro g hg
   simp only [rStart, List.mem_map] at hg
   obtain ⟨t, ht, rfl⟩ := hg
   exact Nat.zero_le _
theorem slice_hiL {φ : AF} {t : TypeId} {ag : Bool} {w d k : Nat} {es : List AV} (hI : eI prog t = some (ag, w)) (h : φ d = .int .i64 (k : Int)) (hk : k ≤ es.length) : aSlice prog φ t (.slice es) none (some (.tmp d)) none = some (.slice (es.take k)) := by
 have he : φ.eval (.tmp d) = .int .i64 (k : Int) := h
 unfold aSlice
 rw [if_neg (by simp [isF0])]
 simp only [aSlice0, hI]
 rw [if_neg (by simp)]
 simp only [aBound, he]
 rw [if_pos (by omega)]
 simp
def SlA (a : AV) : Prop := (∃ l, a = .slice l) ∨ a = .fslice []
theorem SlA.facts {a : AV} (h : SlA a) : a.isAgg = false ∧ a.width = 1 ∧ a.isJunk = false ∧ a.cells = [a] ∧ a.storable = true ∧ ∃ l, a.soft = .slice l := by
 rcases h with ⟨l, rfl⟩ | rfl
 · exact ⟨rfl, rfl, rfl, rfl, rfl, l, rfl⟩
 · exact ⟨rfl, rfl, rfl, rfl, rfl, [], rfl⟩
abbrev tf_R6_93 := zi tI_3 (zi zI_3 (zi underlying3 (zi tI_4 (zi zI_4 (zi underlying4 (zi tI_29 (zi zI_29 (zi eI_29 (zi eB_29 (zi eZ_29 (zi underlying29 (zi tI_109 (zi zI_109 (zi eI_109 (zi eB_109 (zi eZ_109 (zi underlying109 (zi tI_111 (zi zI_111 (zi fI_111_0 (zi fI_111_1 (zi fI_111_2 (zi bI_111 (zi tI_165 (zi zI_165 (zi fI_165_0 (zi fI_165_1 (zi fI_165_2 (zi fI_165_3 bI_165)))))))))))))))))))))))))))))
theorem c_l6Back {p : List Cl} (hp : ∀ c ∈ p, ClX c ∧ c.2.length ≤ 6) {B : Nat} (hB : B ≤ 524288) (gs0 : List RG) (σ0 : List AV) (chs : List RC) (hl : chs.length ≤ B) (hc : ∀ c ∈ chs, RcOk p c ∧ c.N + 26 ≤ B ∧ c.rest.length + 26 ≤ B ∧ 0 < c.N) (st : zy7) :
 zq7 prog 93 [.slice (p.map clAv), .agg [.slice (gs0.map rgAv), .slice σ0, .slice (chs.map rcAv)]] st (fun r st' => st' = st ∧ match rBack p chs.length chs with
  | some s => r = .tup [rsAv s, .bool true]
  | none => ∃ l1 l2 l3, r = .tup [.agg [.slice l1, .slice l2, .slice l3], .bool false]) := by
 refine zq7.dropS (zq7.soft ?_)
 refine wF [1000000, 3] 2 func93 ntmps93 rfl rfl ?_
 intro _
 simp -implicitDefEqProofs only [zy4, List.length_map, evF, ↓evZ, implies_true, seval, tf_R6_93]
 intro b3 h3 b4 h4
 have hne : b4 ≠ b3 := by rintro rfl; rw [zy7.upd_same] at h4; cases h4
 have hst4 : st b4 = none := by rw [zy7.upd_ne _ _ hne] at h4; exact h4
 rw [zy7.upd_comm _ _ _ (Ne.symm hne)]
 generalize hW : st.upd b4 (.cells [.fslice [], .fslice [], .fslice []]) = W
 have hW4 : W b4 = some (.cells [.fslice [], .fslice [], .fslice []]) := by rw [← hW]; exact zy7.upd_same _ _ _
 have hW3 : W b3 = none := by rw [← hW, zy7.upd_ne _ _ (Ne.symm hne)]; exact h3
 have hDW : ∀ o o', Drops ((W.upd b3 o).upd b4 o') st := fun o o' q => by
  by_cases q4 : q = b4
  · subst q4; rw [zy7.upd_same, hst4]; simp
  rw [zy7.upd_ne _ _ q4]
  by_cases q3 : q = b3
  · subst q3; rw [zy7.upd_same, h3]; simp
  rw [zy7.upd_ne _ _ q3, ← hW, zy7.upd_ne _ _ q4]
  simp
 have hne' : b3 ≠ b4 := Ne.symm hne
 refine zw5 (σ := List RC × AV × AV) [1000000, 3] [0, 3, 4] (fun s => s.1.length ≤ B ∧ (∀ c ∈ s.1, RcOk p c ∧ c.N + 26 ≤ B ∧ c.rest.length + 26 ≤ B ∧ 0 < c.N) ∧ SlA s.2.1 ∧ SlA s.2.2 ∧ rBack p s.1.length s.1 = rBack p chs.length chs) (fun s => [(5, .bool false)]) (fun s => W.upd b3 (.cells [s.2.1, s.2.2, .slice (s.1.map rcAv)])) (fun s => s.1.length) (by decide +kernel) ⟨(chs, .slice (gs0.map rgAv), .slice σ0), ⟨hl, hc, .inl ⟨_, rfl⟩, .inl ⟨_, rfl⟩, rfl⟩, zx7.mk (by simp -implicitDefEqProofs only [zy4, List.length_map, evF, ↓evZ, implies_true, seval, tf_R6_93])⟩ ?_
 rintro ⟨l, a, b⟩ ⟨hl1, hlc, ha, hb, hinv⟩
 simp only at hl1 hlc ha hb hinv
 obtain ⟨a1, a2, a3, a4, a5, la, a6⟩ := ha.facts
 obtain ⟨b1, b2, b3', b4', b5, lb, b6⟩ := hb.facts
 simp only
 rw [rBack_eq] at hinv
 by_cases hnil : l = []
 · subst hnil
   simp only [List.getLast?_nil] at hinv
   simp -implicitDefEqProofs only [zy4, hne, hne', List.length_map, zy7.upd_same, hW4, a1, a2, a4, a5, b1, b2, b4', b5, evE, ↓evZ2, ↓evZ3, ↓Int.cast_ofNat_Int, implies_true, zy2, aFn, List.contains, List.elem, zq3, zy1, zq2, sub, zx3, zw2, zw3, zy3, gd, zq1, zw0, zq0, zx0, zx2, zx1, zy0, zw1, List.range', ↓reduceIte, reduceCtorEq, Nat.reduceEqDiff, Nat.reduceAdd, Nat.reduceLeDiff, Nat.reduceMul, Nat.reduceLT, Nat.reduceBEq, Int.reduceEq, tf_R6_93]
   refine zq4 (fun h => absurd h (by decide)) (fun h => ?_)
   simp -implicitDefEqProofs only [zy4, hne, hne', List.length_map, zy7.upd_same, hW4, a1, a2, a4, a5, b1, b2, b4', b5, evF, ↓evZ, implies_true, seval, tf_R6_93]
   rw [← hinv]
   exact ⟨st, hDW _ _, rfl, la, lb, [], by simp only [soft_agg, soft_tup, soft_int, soft_bool, soft_str, soft_slice, soft_fslice, soft_ptr, soft_pptr, soft_map, soft_mslice, Tm.soft, List.map_cons, List.map_nil, a6, b6]⟩
 obtain ⟨c, hlast⟩ : ∃ c, l.getLast? = some c := by
  cases h : l.getLast? with
  | none => exact absurd (List.getLast?_eq_none_iff.1 h) hnil
  | some c => exact ⟨c, rfl⟩
 have hlp := List.length_pos_iff.2 hnil
 have hcm := List.mem_of_getLast? hlast
 obtain ⟨hcok, hcN, hcr, hc0⟩ := hlc c hcm
 rw [hlast] at hinv
 simp only at hinv
 have hat := ev_at (av := rcAv) (P := prog) (l := l) (i := l.length - 1) (x := c) eI_109 (by rw [← List.getLast?_eq_getElem?]; exact hlast) (rcAv_width c)
 rw [show (((l.length - 1 : Nat) : Int)) = (l.length : Int) - 1 by omega] at hat
 have hw := wrap64 (n := (l.length : Int) - 1) (by omega) (by omega)
 have hdl : l.dropLast = l.take (l.length - 1) := List.dropLast_eq_take
 have hdll : l.dropLast.length + 1 = l.length := by simp; omega
 have hct := c_l6Try p hp [] [] l.dropLast c hcok hc0 (by omega) (by omega)
 have hcs := fun (φ : AF) (d : Nat) (h : φ d = .int .i64 ((l.length : Int) - 1)) => slice_hiL (es := l.map rcAv) (k := l.length - 1) eI_109 (h.trans (by congr 1; omega)) (by simp)
 rw [← List.map_take, ← hdl] at hcs
 generalize hx : rTry p l.dropLast c.goal c.rest c.σ c.N c.left = x at hinv hct
 obtain ⟨⟨ck, cn, cs', cts⟩, crest, cleft, cσ, cN⟩ := c
 rw [rcAv_mk] at hct hat
 simp only [List.map_nil] at hct
 simp -implicitDefEqProofs only [zy4, hne, hne', List.length_map, zy7.upd_same, hW4, a1, a2, a4, a5, b1, b2, b4', b5, hw, hat, hcs, evF, ↓evZ, implies_true, seval, tf_R6_93]
 refine zq4 (fun h => ?_) (fun h => absurd hlp (by simpa using h))
 simp -implicitDefEqProofs only [zy4, hne, hne', List.length_map, zy7.upd_same, hW4, a1, a2, a4, a5, b1, b2, b4', b5, hw, hat, hcs, evF, ↓evZ, implies_true, seval, tf_R6_93]
 cases x with
 | none =>
  have hct2 : ∀ st, zq7 prog 146 [.slice (p.map clAv), .agg [.fslice [], .fslice [], .slice (l.dropLast.map rcAv)], .agg [.int .i64 ck, .int .i64 cn, .str cs', .slice (cts.map Tm.av), .slice (crest.map rgAv), .slice (cleft.map nv), .slice (arrN cN cσ)]] st (fun r st' => r = .tup [.agg [.slice [], .slice [], .slice (l.dropLast.map rcAv)], .bool false] ∧ st' = st) := fun st =>
   zq7.softArgs ((hct st).mono fun _ _ h => ⟨h.2, h.1⟩)
  simp only at hinv
  refine wP [(0, 1), (1, 1), (3, 1), (2, 2), (4, 1), (5, 1), (6, 2), (7, 1), (8, 1), (9, 1), (10, 1), (11, 0), (12, 0), (13, 1)] [0, 1, 3, 2, 4, 5, 6, 7, 8, 9, 10, 13] mixed ?_
  simp -implicitDefEqProofs only [zy4, hne, hne', List.length_map, zy7.upd_same, hW4, a1, a2, a4, a5, b1, b2, b4', b5, hw, hat, hcs, evF, ↓evZ, implies_true, seval, tf_R6_93]
  refine callF_mk hct2 ?_
  simp -implicitDefEqProofs only [zy4, hne, hne', List.length_map, zy7.upd_same, hW4, a1, a2, a4, a5, b1, b2, b4', b5, hw, hat, hcs, evF, ↓evZ, implies_true, seval, tf_R6_93]
  intro b8 h8
  have h83 : b8 ≠ b3 := by rintro rfl; rw [zy7.upd_same] at h8; cases h8
  rw [zy7.upd_ne _ _ h83] at h8
  have h84 : b8 ≠ b4 := by rintro rfl; rw [hW4] at h8; cases h8
  have hs8 : st b8 = none := by rw [← hW, zy7.upd_ne _ _ h84] at h8; exact h8
  have h38 := Ne.symm h83
  have h48 := Ne.symm h84
  simp -implicitDefEqProofs only [zy4, hne, hne', h83, h84, h38, h48, List.length_map, zy7.upd_same, hW4, a1, a2, a4, a5, b1, b2, b4', b5, hw, hat, hcs, evF, ↓evZ, implies_true, seval, tf_R6_93]
  refine ⟨(l.dropLast, .fslice [], .fslice []), by simp only; omega, ⟨by simp only; omega, fun c h => hlc c (List.dropLast_subset _ h), .inr rfl, .inr rfl, hinv⟩, zx7.drop (fun q => ?_) (by simp -implicitDefEqProofs only [zy4, hne, hne', h83, h84, h38, h48, List.length_map, zy7.upd_same, hW4, a1, a2, a4, a5, b1, b2, b4', b5, hw, hat, hcs, evF, ↓evZ, implies_true, seval, tf_R6_93])⟩
  by_cases q3 : q = b3
  · subst q3; rw [zy7.upd_same, zy7.upd_same]; simp
  rw [zy7.upd_ne _ _ q3, zy7.upd_ne _ _ q3]
  by_cases q8 : q = b8
  · subst q8; rw [zy7.upd_same, h8]; simp
  rw [zy7.upd_ne _ _ q8, zy7.upd_ne _ _ q3]
  simp
 | some s =>
  have hct2 : ∀ st, zq7 prog 146 [.slice (p.map clAv), .agg [.fslice [], .fslice [], .slice (l.dropLast.map rcAv)], .agg [.int .i64 ck, .int .i64 cn, .str cs', .slice (cts.map Tm.av), .slice (crest.map rgAv), .slice (cleft.map nv), .slice (arrN cN cσ)]] st (fun r st' => r = .tup [rsAv s, .bool true] ∧ st' = st) := fun st =>
   zq7.softArgs ((hct st).mono fun _ _ h => ⟨h.2, h.1⟩)
  simp only at hinv
  simp only [rsAv] at hct2
  refine wP [(0, 1), (1, 1), (3, 1), (2, 2), (4, 1), (5, 1), (6, 2), (7, 1), (8, 1), (9, 1), (10, 1), (11, 0), (12, 0), (13, 1)] [0, 1, 3, 2, 4, 5, 6, 7, 8, 9, 10, 13] mixed ?_
  simp -implicitDefEqProofs only [zy4, hne, hne', List.length_map, zy7.upd_same, hW4, a1, a2, a4, a5, b1, b2, b4', b5, hw, hat, hcs, evF, ↓evZ, implies_true, seval, tf_R6_93]
  refine callF_mk hct2 ?_
  simp -implicitDefEqProofs only [zy4, hne, hne', List.length_map, zy7.upd_same, hW4, a1, a2, a4, a5, b1, b2, b4', b5, hw, hat, hcs, evF, ↓evZ, implies_true, seval, tf_R6_93]
  intro b8 h8
  have h83 : b8 ≠ b3 := by rintro rfl; rw [zy7.upd_same] at h8; cases h8
  rw [zy7.upd_ne _ _ h83] at h8
  have h84 : b8 ≠ b4 := by rintro rfl; rw [hW4] at h8; cases h8
  have hs8 : st b8 = none := by rw [← hW, zy7.upd_ne _ _ h84] at h8; exact h8
  have h38 := Ne.symm h83
  have h48 := Ne.symm h84
  simp -implicitDefEqProofs only [zy4, hne, hne', h83, h84, h38, h48, List.length_map, zy7.upd_same, hW4, a1, a2, a4, a5, b1, b2, b4', b5, hw, hat, hcs, evF, ↓evZ, implies_true, seval, tf_R6_93]
  refine ⟨st, ?_, rfl, ?_⟩
  · have d1 : Drops W st := by rw [← hW]; exact (Drops.refl _).upd hst4
    exact ((d1.upd h3).upd hs8).upd hst4
  · rw [← hinv]
    simp only [soft_agg, soft_tup, soft_int, soft_bool, soft_str, soft_slice, soft_fslice, soft_ptr, soft_pptr, soft_map, soft_mslice, Tm.soft, List.map_cons, List.map_nil]
    rfl
theorem slice_lo1 {φ : AF} {t : TypeId} {ag : Bool} {w : Nat} {y : Operand} {e : AV} {es : List AV} (hI : eI prog t = some (ag, w)) (h : φ.eval y = .int .i64 1) (hw : ∀ x ∈ es, x.width = w) : aSlice prog φ t (.slice (e :: es)) (some y) none none = some (.slice es) := by
 have hwo : widthOk (e :: es) 1 w = true := by
  unfold widthOk
  rw [List.getElem?_cons_succ]
  split
  · rename_i x hx
    simp [hw x (List.mem_of_getElem? hx)]
  · rfl
 unfold aSlice
 rw [if_neg (by simp [isF0])]
 simp only [aSlice0, hI]
 rw [if_neg (by simp)]
 simp only [aBound, h]
 rw [if_pos (by constructor <;> simp <;> omega)]
 simp [hwo]
abbrev tf_R7_145 := zi tI_3 (zi zI_3 underlying3)
theorem c_l6End (c : Int) (st : zy7) : zq7 prog 145 [.int .i64 c] st (fun r st' => r = .int .i64 (endC c) ∧ st' = st) := by
 refine zq7.done ?_
 refine wF [1000000] 1 func145 ntmps145 rfl rfl ?_
 intro _
 simp -implicitDefEqProofs only [evF, ↓evZ, implies_true, seval, tf_R7_145]
 unfold endC
 refine zq4 (fun h => ?_) (fun h => ?_)
 · simp -implicitDefEqProofs only [evF, ↓evZ, implies_true, seval, tf_R7_145]
   have h' : c = 2 := by simpa using h
   exact ⟨by rw [if_pos h']; rfl, Drops.refl _⟩
 rw [if_neg (show ¬ c = 2 by simpa using h)]
 simp -implicitDefEqProofs only [evF, ↓evZ, implies_true, seval, tf_R7_145]
 refine zq4 (fun h => ?_) (fun h => ?_)
 · simp -implicitDefEqProofs only [evF, ↓evZ, implies_true, seval, tf_R7_145]
   have h' : c = 3 := by simpa using h
   exact ⟨by rw [if_pos h']; rfl, Drops.refl _⟩
 rw [if_neg (show ¬ c = 3 by simpa using h)]
 simp -implicitDefEqProofs only [evF, ↓evZ, implies_true, seval, tf_R7_145]
 refine zq4 (fun h => ?_) (fun h => ?_)
 · simp -implicitDefEqProofs only [evF, ↓evZ, implies_true, seval, tf_R7_145]
   have h' : c = 4 := by simpa using h
   exact ⟨by rw [if_pos h']; rfl, Drops.refl _⟩
 rw [if_neg (show ¬ c = 4 by simpa using h)]
 simp -implicitDefEqProofs only [evF, ↓evZ, implies_true, seval, tf_R7_145]
 exact ⟨rfl, Drops.refl _⟩
def StepR (x : RO) (r : AV) : Prop := match x with
 | .go s => r = .tup [rsAv s, .int .i64 (-1)]
 | .fail => ∃ l1 l2 l3, r = .tup [.agg [.slice l1, .slice l2, .slice l3], .int .i64 (-2)]
 | .stop e => 0 ≤ e ∧ ∃ l1 l2 l3, r = .tup [.agg [.slice l1, .slice l2, .slice l3], .int .i64 e]
abbrev tf_R7_92 := zi tI_2 (zi zI_2 (zi underlying2 (zi tI_3 (zi zI_3 (zi underlying3 (zi tI_4 (zi zI_4 (zi underlying4 (zi tI_9 (zi zI_9 (zi underlying9 (zi tI_29 (zi zI_29 (zi eI_29 (zi eB_29 (zi eZ_29 (zi underlying29 (zi tI_31 (zi zI_31 (zi eI_31 (zi eB_31 (zi eZ_31 (zi underlying31 (zi tI_42 (zi zI_42 (zi fI_42_0 (zi fI_42_1 (zi fI_42_2 (zi fI_42_3 (zi bI_42 (zi tI_58 (zi zI_58 (zi eI_58 (zi eB_58 (zi eZ_58 (zi underlying58 (zi tI_108 (zi zI_108 (zi eI_108 (zi eB_108 (zi eZ_108 (zi underlying108 (zi tI_109 (zi zI_109 (zi eI_109 (zi eB_109 (zi eZ_109 (zi underlying109 (zi tI_111 (zi zI_111 (zi fI_111_0 (zi fI_111_1 (zi fI_111_2 (zi bI_111 (zi tI_161 (zi zI_161 (zi fI_161_0 (zi fI_161_1 (zi bI_161 (zi tI_165 (zi zI_165 (zi fI_165_0 (zi fI_165_1 (zi fI_165_2 (zi fI_165_3 bI_165)))))))))))))))))))))))))))))))))))))))))))))))))))))))))))))))))
theorem c_l6Step {p : List Cl} (hp : ∀ c ∈ p, ClX c ∧ c.2.length ≤ 6) (hpl : p.length ≤ 1048576) {B : Nat} (hB : B + 26 ≤ 524288) (goals : List RG) (σ : Sub) (N : Nat) (chs : List RC) (g : RG) (rest : List RG) (hgs : goals = g :: rest) (h : RsOk p B ⟨goals, σ, N, chs⟩) (hK : RsK ⟨goals, σ, N, chs⟩) (st : zy7) :
 zq7 prog 92 [.slice (p.map clAv), .agg [.slice (goals.map rgAv), .slice (arrN N σ), .slice (chs.map rcAv)]] st (fun r st' => st' = st ∧ StepR (rStep p (fun _ l => l) ⟨goals, σ, N, chs⟩ g rest) r) := by
 subst hgs
 obtain ⟨hg, ho, hd, hgo, h0, hN, hgl, hcl, hch⟩ := h
 simp only at hg ho hd hgo h0 hN hgl hcl hch
 obtain ⟨hgx, hg3⟩ := hgo g (by simp)
 have hrest : ∀ x ∈ rest, OkX N x.t ∧ x.t.k = 3 := fun x hx => hgo x (by simp [hx])
 have hkp := hK.goals.2 g (by simp)
 simp only at hkp
 have hsm := c_l6Small hg ho g.t hgx
 have hyk : (g.t.mapv (rs σ)).k = 3 := by rw [Tm.mapv_k _ (by omega)]; exact hg3
 have hfo := fit_ok hg ho hgx
 generalize hR : rStep p (fun _ l => l) ⟨g :: rest, σ, N, chs⟩ g rest = R
 unfold rStep at hR
 dsimp only at hR
 obtain ⟨⟨gk, gn, gs', gts⟩, keep⟩ := g
 simp only at hgx hg3 hkp hsm hyk hfo
 dsimp only at hR
 generalize (Tm.mk gk gn gs' gts).mapv (rs σ) = y at *
 obtain ⟨yk, yn, ys, yts⟩ := y
 obtain rfl : yk = 3 := hyk
 have hat : aIndexAddr prog 108 (.slice ((⟨.mk gk gn gs' gts, keep⟩ :: rest).map rgAv)) (.int .i64 0) = some (.pptr (rgAv ⟨.mk gk gn gs' gts, keep⟩)) := ev_at (av := rgAv) (l := ⟨.mk gk gn gs' gts, keep⟩ :: rest) (i := 0) eI_108 rfl (rgAv_width _)
 have hs1 := fun (φ : AF) (y : Operand) (h : φ.eval y = .int .i64 1) => slice_lo1 (e := rgAv ⟨.mk gk gn gs' gts, keep⟩) (es := rest.map rgAv) eI_108 h (by intro e he; simp only [List.mem_map] at he; obtain ⟨t, _, rfl⟩ := he; exact rgAv_width t)
 rw [List.map_cons, rgAv_mk] at hat
 rw [rgAv_mk] at hs1
 rw [List.map_cons, rgAv_mk]
 simp only [Tm.av_mk] at hsm
 refine zq7.fin (zq7.dropS ?_)
 refine wF [1000000] 2 func92 ntmps92 rfl rfl ?_
 intro _
 simp -implicitDefEqProofs only [zy4, List.length_map, List.length_cons, hat, hs1, evF, ↓evZ, implies_true, seval, tf_R7_92]
 intro b4 h4
 refine (hsm _).mono ?_
 rintro _ _ ⟨rfl, x, rfl, hx⟩
 generalize hfit : fitT (.mk 3 yn ys yts) = fit at *
 have fin0 : ∀ (o : AO) (r : AV) (x : RO), StepR x (r.fin 0 []) → ∃ s2, Drops (st.upd b4 o) s2 ∧ ∃ b l s0, s2 = accS s0 b l ∧ (l ≠ [] → s0 b = none) ∧ (∀ e ∈ l, e.isJunk = false) ∧ Even l ∧ s0 = st ∧ StepR x (r.fin b l) := fun o r x hr =>
  ⟨st, (Drops.refl _).upd h4, 0, [], st, rfl, by simp, by simp, ⟨0, by simp⟩, rfl, hr⟩
 simp -implicitDefEqProofs only [zy4, List.length_map, List.length_cons, hat, hs1, Tm.av_agg, Tm.av_width, Tm.av_store, Tm.av_junk, Tm.av_cells, take_all (Tm.av_cells x), agg_cells (Tm.av_agg x), Nat.le_refl, evF, ↓evZ, implies_true, seval, tf_R7_92]
 refine zq4 (fun h => ?_) (fun h => ?_)
 · have h' : fit = false := by simpa using h
   subst h'
   rw [if_pos rfl] at hR
   subst hR
   simp -implicitDefEqProofs only [zy4, List.length_map, List.length_cons, hat, hs1, Tm.av_agg, Tm.av_width, Tm.av_store, Tm.av_junk, Tm.av_cells, take_all (Tm.av_cells x), agg_cells (Tm.av_agg x), Nat.le_refl, evF, ↓evZ, implies_true, seval, tf_R7_92]
   exact fin0 _ _ _ ⟨by decide, _, _, _, by simp only [fin_agg, fin_tup, fin_int, fin_bool, fin_str, fin_slice, fin_fslice, fin_pptr, fin_ptr, fin_func, fin_map, fin_undef, fin_accV, tm_fin, List.map_cons, List.map_nil]; rfl⟩
 obtain rfl : fit = true := by simpa using h
 obtain rfl := hx rfl
 simp only [Tm.av_mk]
 have hyo := hfo rfl
 rw [if_neg (by simp)] at hR
 have hcut : ∀ st, zq7 prog 143 [.agg [.int .i64 3, .int .i64 yn, .str ys, .slice (yts.map Tm.av)]] st (fun r st' => r = .bool (cutT (.mk 3 yn ys yts)) ∧ st' = st) := fun st => by
  have := c_l4Cut 3 yn ys yts st
  rw [Tm.av_mk] at this
  exact this
 have hbi := fun st => c_spec_IsBuiltin ys (yts.length : Int) st
 have hfor := fun st => c_l4For p (.mk 3 yn ys yts) hpl st
 have hsolve := fun hb => cN_l5Solve2 (N := N) h0 (by omega) hg ho yn ys yts hb (okX_kids N (.mk 3 yn ys yts) (by show (3 : Int) ≠ 1; decide) hyo)
 have htr := c_l6Try p hp
 simp only [Tm.av_mk] at hfor hsolve
 replace hR : (if cutT (.mk 3 yn ys yts) = true then RO.go ⟨rest, σ, N, chs.take keep⟩ else if isBuiltin ys (yts.length : Int) = true then (if (solveG σ ys yts).1 = 0 then RO.go ⟨rest, (solveG σ ys yts).2.1, N, chs⟩ else if (solveG σ ys yts).1 = 1 then RO.fail else RO.stop (endC (solveG σ ys yts).1)) else if forL p (.mk 3 yn ys yts) = [] then RO.stop 8 else match rTry p chs (.mk 3 yn ys yts) rest σ N (forL p (.mk 3 yn ys yts)) with | some s' => RO.go s' | none => RO.fail) = R := hR
 generalize hcu : cutT (.mk 3 yn ys yts) = cu at *
 have hs2 := fun (φ : AF) (d : Nat) (h : φ d = .int .i64 (keep : Int)) => slice_hiL (es := chs.map rcAv) (k := keep) eI_109 h (by simpa using hkp)
 rw [← List.map_take] at hs2
 refine (hcut _).to ?_
 simp -implicitDefEqProofs only [zy4, List.length_map, List.length_cons, hat, hs1, hs2, Nat.le_refl, evF, ↓evZ, implies_true, seval, tf_R7_92]
 refine zq4 (fun h => ?_) (fun h => ?_)
 · rw [if_pos h] at hR
   subst h hR
   simp -implicitDefEqProofs only [zy4, List.length_map, List.length_cons, hat, hs1, hs2, Nat.le_refl, evF, ↓evZ, implies_true, seval, tf_R7_92]
   refine wP [(0, 1), (1, 1), (3, 1), (5, 1), (2, 2), (4, 2), (6, 2), (7, 1), (8, 1), (9, 0), (10, 1)] [0, 1, 3, 5, 2, 4, 6, 7, 8, 10] mixed ?_
   simp -implicitDefEqProofs only [zy4, List.length_map, List.length_cons, hat, hs1, hs2, Nat.le_refl, evF, ↓evZ, implies_true, seval, tf_R7_92]
   exact fin0 _ _ _ (by simp only [fin_agg, fin_tup, fin_int, fin_bool, fin_str, fin_slice, fin_fslice, fin_pptr, fin_ptr, fin_func, fin_map, fin_undef, fin_accV, tm_fin, List.map_cons, List.map_nil]; rfl)
 rw [if_neg (by rw [h]; simp)] at hR
 subst h
 simp -implicitDefEqProofs only [zy4, List.length_map, List.length_cons, hat, hs1, hs2, Nat.le_refl, evF, ↓evZ, implies_true, seval, tf_R7_92]
 refine (hbi _).to ?_
 simp -implicitDefEqProofs only [zy4, List.length_map, List.length_cons, hat, hs1, hs2, Nat.le_refl, evF, ↓evZ, implies_true, seval, tf_R7_92]
 refine zq4 (fun h => ?_) (fun h => ?_)
 · have hsol := hsolve h
   rw [if_pos h] at hR
   simp -implicitDefEqProofs only [zy4, List.length_map, List.length_cons, hat, hs1, hs2, Nat.le_refl, evF, ↓evZ, implies_true, seval, tf_R7_92]
   refine app_arrN h0 (by omega) σ fun b hb hA0 => ?_
   have hst := Drops.upd (Drops.refl st) (o := .cells [.fslice [], .fslice [], .fslice []]) h4
   generalize hW : st.upd b4 (.cells [.fslice [], .fslice [], .fslice []]) = W at *
   have hW4 : W b4 = some (.cells [.fslice [], .fslice [], .fslice []]) := by rw [← hW]; exact zy7.upd_same _ _ _
   have hT : Drops (W.upd b (.cells ((arrN N σ).flatMap AV.cells))) W := (Drops.refl _).upd hb
   generalize W.upd b (.cells ((arrN N σ).flatMap AV.cells)) = T at *
   have hb4 : b ≠ b4 := by rintro rfl; rw [hW4] at hb; cases hb
   simp -implicitDefEqProofs only [zy4, List.length_map, List.length_cons, hat, hs1, hs2, Nat.le_refl, evF, ↓evZ, implies_true, seval, tf_R7_92]
   refine (hsol b _ hA0).mono ?_
   rintro _ s2 ⟨rfl, hA, hk2⟩
   have hcode := solveG_code σ ys yts
   generalize solveG σ ys yts = S at *
   obtain ⟨c, σ', tr⟩ := S
   simp only at hA hcode ⊢
   dsimp only at hR
   have hDs : Drops s2 W := by
    intro q
    have key : ∀ o, W q = some o → s2 q = some o := fun o h => hk2 q o ((hT q).2 o h) (by rintro rfl; rw [hb] at h; cases h)
    refine ⟨fun h => ?_, key⟩
    cases hq : W q with
    | none => rfl
    | some o => rw [key o hq] at h; cases h
   have hs24 := (hDs b4).2 _ hW4
   have hstb : st b = none := by rw [← hW, zy7.upd_ne _ _ hb4] at hb; exact hb
   have fin2 : ∀ (o : AO) (r : AV) (x : RO), StepR x (r.fin 0 []) → ∃ s3, Drops (s2.upd b4 o) s3 ∧ ∃ b l s0, s3 = accS s0 b l ∧ (l ≠ [] → s0 b = none) ∧ (∀ e ∈ l, e.isJunk = false) ∧ Even l ∧ s0 = st ∧ StepR x (r.fin b l) := fun o r x hr =>
    ⟨st, (hDs.trans hst).upd h4, 0, [], st, rfl, by simp, by simp, ⟨0, by simp⟩, rfl, hr⟩
   simp -implicitDefEqProofs only [zy4, List.length_map, List.length_cons, hat, hs1, hs2, Nat.le_refl, hs24, evF, ↓evZ, implies_true, seval, tf_R7_92]
   refine zq4 (fun h => ?_) (fun h => ?_)
   · have hc0 : c = 0 := by simpa using h
     subst hc0
     rw [if_pos rfl] at hR
     subst hR
     simp -implicitDefEqProofs only [zy4, List.length_map, List.length_cons, hat, hs1, hs2, Nat.le_refl, hs24, evF, ↓evZ, implies_true, seval, tf_R7_92]
     have harr : arrN N σ' ≠ [] := by intro e; have := arrN_len N σ'; rw [e] at this; simp at this; omega
     refine ⟨st.upd b (.cells ((arrN N σ').flatMap AV.cells)), fun q => ?_, b, arrN N σ', st, by rw [accS_cons harr], fun _ => hstb, arrN_junk _ _, ⟨4, arrN_widths _ _⟩, rfl, ?_⟩
     · by_cases q4 : q = b4
       · subst q4; rw [zy7.upd_same, zy7.upd_ne _ _ (Ne.symm hb4), h4]; simp
       rw [zy7.upd_ne _ _ q4]
       by_cases qb : q = b
       · subst qb; rw [zy7.upd_same, show s2 q = _ from hA]; simp
       rw [zy7.upd_ne _ _ qb]
       exact (hDs.trans hst) q
     · simp only [fin_agg, fin_tup, fin_int, fin_bool, fin_str, fin_slice, fin_fslice, fin_pptr, fin_ptr, fin_func, fin_map, fin_undef, fin_accV, tm_fin, List.map_cons, List.map_nil, fin_arrN h0]
       rfl
   have hc0 : c ≠ 0 := by simpa using h
   rw [if_neg hc0] at hR
   simp -implicitDefEqProofs only [zy4, List.length_map, List.length_cons, hat, hs1, hs2, Nat.le_refl, hs24, evF, ↓evZ, implies_true, seval, tf_R7_92]
   refine zq4 (fun h => ?_) (fun h => ?_)
   · have hc1 : c = 1 := by simpa using h
     subst hc1
     rw [if_pos rfl] at hR
     subst hR
     simp -implicitDefEqProofs only [zy4, List.length_map, List.length_cons, hat, hs1, hs2, Nat.le_refl, hs24, evF, ↓evZ, implies_true, seval, tf_R7_92]
     exact fin2 _ _ _ ⟨_, _, _, by simp only [fin_agg, fin_tup, fin_int, fin_bool, fin_str, fin_slice, fin_fslice, fin_pptr, fin_ptr, fin_func, fin_map, fin_undef, fin_accV, tm_fin, List.map_cons, List.map_nil]; rfl⟩
   have hc1 : c ≠ 1 := by simpa using h
   rw [if_neg hc1] at hR
   subst hR
   have hend : 0 ≤ endC c := by unfold endC; split; omega; split; omega; split; omega; omega
   simp -implicitDefEqProofs only [zy4, List.length_map, List.length_cons, hat, hs1, hs2, Nat.le_refl, hs24, evF, ↓evZ, implies_true, seval, tf_R7_92]
   refine wP [(1, 1), (0, 2), (2, 2), (3, 0), (4, 1)] [1, 0, 2, 4] mixed ?_
   simp -implicitDefEqProofs only [zy4, List.length_map, List.length_cons, hat, hs1, hs2, Nat.le_refl, hs24, evF, ↓evZ, implies_true, seval, tf_R7_92]
   refine zw4 (c_l6End c _) ?_
   simp -implicitDefEqProofs only [zy4, List.length_map, List.length_cons, hat, hs1, hs2, Nat.le_refl, hs24, evF, ↓evZ, implies_true, seval, tf_R7_92]
   exact fin2 _ _ _ ⟨hend, _, _, _, by simp only [fin_agg, fin_tup, fin_int, fin_bool, fin_str, fin_slice, fin_fslice, fin_pptr, fin_ptr, fin_func, fin_map, fin_undef, fin_accV, tm_fin, List.map_cons, List.map_nil]; rfl⟩
 rw [if_neg (by rw [h]; simp)] at hR
 simp -implicitDefEqProofs only [zy4, List.length_map, List.length_cons, hat, hs1, hs2, Nat.le_refl, evF, ↓evZ, implies_true, seval, tf_R7_92]
 refine (hfor _).to ?_
 have hcx : RcOk p ⟨.mk 3 yn ys yts, rest, forL p (.mk 3 yn ys yts), σ, N⟩ := ⟨hg, ho, hd, hyo, hrest, fun i hi => by
  unfold forL at hi
  exact List.mem_range.1 (List.mem_filter.1 hi).1, by simp only; simp only [List.length_cons] at hgl; omega, by
  have := forT_len p (.mk 3 yn ys yts) p.length
  rw [← forL_eq] at this
  simp only; omega⟩
 have htr2 := fun st => htr (⟨.mk gk gn gs' gts, keep⟩ :: rest) (arrN N σ) chs _ hcx h0 (by simp only; omega) (by omega) st
 rw [List.map_cons, rgAv_mk, rcAv_mk] at htr2
 simp only at htr2
 generalize forL p (.mk 3 yn ys yts) = left at *
 simp -implicitDefEqProofs only [zy4, List.length_map, List.length_cons, hat, hs1, hs2, Nat.le_refl, evF, ↓evZ, implies_true, seval, tf_R7_92]
 refine zq4 (fun h => ?_) (fun h => ?_)
 · have h' : left = [] := by
    have : (left.length : Int) = 0 := by simpa using h
    exact List.eq_nil_of_length_eq_zero (by omega)
   rw [if_pos h'] at hR
   subst hR
   simp -implicitDefEqProofs only [zy4, List.length_map, List.length_cons, hat, hs1, hs2, Nat.le_refl, evF, ↓evZ, implies_true, seval, tf_R7_92]
   exact fin0 _ _ _ ⟨by decide, _, _, _, by simp only [fin_agg, fin_tup, fin_int, fin_bool, fin_str, fin_slice, fin_fslice, fin_pptr, fin_ptr, fin_func, fin_map, fin_undef, fin_accV, tm_fin, List.map_cons, List.map_nil]; rfl⟩
 have h' : left ≠ [] := by
  rintro rfl
  simp at h
 rw [if_neg h'] at hR
 generalize rTry p chs (.mk 3 yn ys yts) rest σ N left = x at *
 simp -implicitDefEqProofs only [zy4, List.length_map, List.length_cons, hat, hs1, hs2, Nat.le_refl, evF, ↓evZ, implies_true, seval, tf_R7_92]
 cases x with
 | none =>
  simp only at hR htr2
  subst hR
  refine (htr2 _).mono ?_
  rintro _ _ ⟨rfl, rfl⟩
  simp -implicitDefEqProofs only [zy4, List.length_map, List.length_cons, hat, hs1, hs2, Nat.le_refl, evF, ↓evZ, implies_true, seval, tf_R7_92]
  exact fin0 _ _ _ ⟨_, _, _, by simp only [fin_agg, fin_tup, fin_int, fin_bool, fin_str, fin_slice, fin_fslice, fin_pptr, fin_ptr, fin_func, fin_map, fin_undef, fin_accV, tm_fin, List.map_cons, List.map_nil]; rfl⟩
 | some s =>
  simp only [rsAv] at hR htr2
  subst hR
  refine (htr2 _).mono ?_
  rintro _ _ ⟨rfl, rfl⟩
  simp -implicitDefEqProofs only [zy4, List.length_map, List.length_cons, hat, hs1, hs2, Nat.le_refl, evF, ↓evZ, implies_true, seval, tf_R7_92]
  exact fin0 _ _ _ (by simp only [fin_agg, fin_tup, fin_int, fin_bool, fin_str, fin_slice, fin_fslice, fin_pptr, fin_ptr, fin_func, fin_map, fin_undef, fin_accV, tm_fin, List.map_cons, List.map_nil]; rfl)
theorem shf_zero {N : Int} {t : Tm} (h : OkV N t) : shf 0 t = t := by
 have h1 : shf 0 t = t.mapv vr := by
  unfold shf ren
  congr 1
  funext v
  congr 1
  simp
 rw [h1, mapv_id t h.2.1]
theorem arrN_none (N : Nat) : arrN N Sub.none = List.replicate N zt := by
 apply List.ext_getElem?
 intro i
 by_cases h : i < N
 · rw [arrN_get N _ h, List.getElem?_replicate, if_pos h]; rfl
 · rw [List.getElem?_eq_none (by rw [arrN_len]; omega), List.getElem?_eq_none (by simp; omega)]
abbrev tf_R8_90 := zi tI_3 (zi zI_3 (zi underlying3 (zi tI_31 (zi zI_31 (zi eI_31 (zi eB_31 (zi eZ_31 (zi underlying31 (zi tI_108 (zi zI_108 (zi eI_108 (zi eB_108 (zi eZ_108 (zi underlying108 (zi tI_111 (zi zI_111 (zi fI_111_0 (zi fI_111_1 (zi fI_111_2 bI_111)))))))))))))))))))
theorem c_l6Start (q : List Tm) (hq : ∀ t ∈ q, OkX 26 t) (h6 : q.length ≤ 6) (st : zy7) : zq7 prog 90 [.slice (q.map Tm.av)] st (fun r st' => r = rsAv (rStart q) ∧ st' = st) := by
 have hgo : ∀ st, zq7 prog 139 [.slice (q.map Tm.av), .int .i64 0, .int .i64 0, .fslice []] st (fun r st' => r = .slice ((rStart q).goals.map rgAv) ∧ st' = st) := fun st =>
  zq7.softArgs ((c_l6Goals q 0 0 [] hq h6 (by omega) (by simp) st).mono fun _ _ h => ⟨by
   rw [h.1]
   unfold rStart
   rw [List.append_nil]
   congr 2
   exact List.map_congr_left fun t ht => by rw [shf_zero (hq t ht).1], h.2⟩)
 refine zq7.drop2 (zq7.fin (zq7.dropS ?_))
 refine wF [1000000, 3] 1 func90 ntmps90 rfl rfl ?_
 intro _
 simp -implicitDefEqProofs only [zy4, List.length_map, evF, ↓evZ, implies_true, seval, tf_R8_90]
 intro b2 h2
 simp -implicitDefEqProofs only [aMakeSlice, zy4, List.length_map, evE, ↓evZ2, ↓evZ3, ↓Int.cast_ofNat_Int, implies_true, zy2, aFn, List.contains, List.elem, zq3, zy1, zq2, sub, zx3, zw2, zw3, zy3, gd, zq1, zw0, zq0, zx0, zx2, zx1, zy0, zw1, List.range', ↓reduceIte, reduceCtorEq, Nat.reduceEqDiff, Nat.reduceAdd, Nat.reduceLeDiff, Nat.reduceMul, Nat.reduceLT, Nat.reduceBEq, Int.reduceEq, tf_R8_90]
 refine ⟨by omega, by omega, by omega, fun bb hbb => ?_⟩
 rw [show Int.toNat 26 = 26 from rfl, madeAV_eq _ (by simp)]
 have hb2 : bb ≠ b2 := by rintro rfl; rw [zy7.upd_same] at hbb; cases hbb
 have hcells : (List.replicate 26 [AV.int .i64 0, .int .i64 0, .str ⟨#[]⟩, .fslice []]).flatten = (arrN 26 Sub.none).flatMap AV.cells := by
  rw [arrN_none]; rfl
 rw [hcells]
 have h22 : (st.upd b2 (AO.cells [AV.fslice [], AV.fslice [], AV.fslice []])) b2 = some (AO.cells [AV.fslice [], AV.fslice [], AV.fslice []]) := zy7.upd_same _ _ _
 have hD2 : Drops (st.upd b2 (AO.cells [AV.fslice [], AV.fslice [], AV.fslice []])) st := (Drops.refl _).upd h2
 intro b3 h3
 have h3b : b3 ≠ bb := by rintro rfl; rw [zy7.upd_same] at h3; cases h3
 rw [zy7.upd_ne _ _ h3b] at h3
 have h32 : b3 ≠ b2 := by rintro rfl; rw [zy7.upd_same] at h3; cases h3
 have hs3 : st b3 = none := by rw [zy7.upd_ne _ _ h32] at h3; exact h3
 have hsb : st bb = none := by rw [zy7.upd_ne _ _ hb2] at hbb; exact hbb
 refine (hgo _).to ?_
 have e1 := Ne.symm h3b
 have e2 := Ne.symm h32
 have e3 := Ne.symm hb2
 simp -implicitDefEqProofs only [zy4, List.length_map, h3b, h32, e1, e2, e3, hb2, zy7.upd_same, evF, ↓evZ, implies_true, seval, tf_R8_90]
 have harr : arrN 26 Sub.none ≠ [] := by rw [arrN_none]; simp
 refine ⟨st.upd bb (.cells ((arrN 26 Sub.none).flatMap AV.cells)), fun q' => ?_, bb, arrN 26 Sub.none, st, by rw [accS_cons harr], fun _ => hsb, arrN_junk _ _, ⟨4, arrN_widths _ _⟩, ?_, Drops.refl _⟩
 · by_cases q2 : q' = b2
   · subst q2; rw [zy7.upd_same, zy7.upd_ne _ _ e3, h2]; simp
   rw [zy7.upd_ne _ _ q2]
   by_cases q3 : q' = b3
   · subst q3; rw [zy7.upd_same, zy7.upd_ne _ _ h3b, hs3]; simp
   simp only [zy7.upd_ne _ _ q3]
   by_cases qb : q' = bb
   · subst qb; rw [zy7.upd_same, zy7.upd_same]; simp
   rw [zy7.upd_ne _ _ qb, zy7.upd_ne _ _ qb, zy7.upd_ne _ _ q2]
   simp
 · simp only [fin_agg, fin_tup, fin_int, fin_bool, fin_str, fin_slice, fin_fslice, fin_pptr, fin_ptr, fin_func, fin_map, fin_undef, fin_accV, tm_fin, List.map_cons, List.map_nil, fin_arrN (show 0 < 26 by omega)]
   rfl
theorem accS_updC {S : zy7} {b c : Nat} {l : List AV} {o : AO} (h : l ≠ [] → b ≠ c) : (accS S b l).upd c o = accS (S.upd c o) b l := by
 cases l with
 | nil => rfl
 | cons x l => rw [accS_cons (by simp), accS_cons (by simp), zy7.upd_comm _ _ _ (h (by simp))]
theorem rRun_nil {p : List Cl} {cnd : Tm → List Nat → List Nat} {vars : List Int} {most fuel : Nat} {s : RS} (hg : s.goals = []) : rRun p cnd vars most fuel s = if most = 0 then ([], 1) else match ansR s.σ vars with
 | none => ([], 3)
 | some a => match rBack p s.chs.length s.chs with
  | none => ([a], 0)
  | some s' => (a :: (rRun p cnd vars (most - 1) fuel s').1, (rRun p cnd vars (most - 1) fuel s').2) := by
 rw [rRun.eq_def, hg]
 simp only
 split <;> rfl
theorem rRun_cons {p : List Cl} {cnd : Tm → List Nat → List Nat} {vars : List Int} {most fuel : Nat} {s : RS} {g : RG} {rest : List RG} (hg : s.goals = g :: rest) : rRun p cnd vars most fuel s = if fuel = 0 then ([], 2) else match rStep p cnd s g rest with
 | .stop e => ([], e)
 | .go s' => rRun p cnd vars most (fuel - 1) s'
 | .fail => match rBack p s.chs.length s.chs with
  | none => ([], 0)
  | some s' => rRun p cnd vars most (fuel - 1) s' := by
 rw [rRun.eq_def, hg]
 simp only
 split <;> rfl
structure RunI (p : List Cl) (vars : List Int) (most fuel : Nat) (T : List (List Tm) × Int) (s : RS) (out : List (List Tm)) (f B : Nat) : Prop where
 tot : T = (out ++ (rRun p (fun _ l => l) vars (most - out.length) f s).1, (rRun p (fun _ l => l) vars (most - out.length) f s).2)
 len : out.length ≤ most
 ok : RsA p B s
 bd : B + 26 * f ≤ 8000
abbrev tf_R9_39 := zi tI_2 (zi zI_2 (zi underlying2 (zi tI_3 (zi zI_3 (zi underlying3 (zi tI_4 (zi zI_4 (zi underlying4 (zi tI_26 (zi zI_26 (zi eI_26 (zi eB_26 (zi eZ_26 (zi underlying26 (zi tI_29 (zi zI_29 (zi eI_29 (zi eB_29 (zi eZ_29 (zi underlying29 (zi tI_31 (zi zI_31 (zi eI_31 (zi eB_31 (zi eZ_31 (zi underlying31 (zi tI_51 (zi zI_51 (zi fI_51_0 (zi bI_51 (zi tI_58 (zi zI_58 (zi eI_58 (zi eB_58 (zi eZ_58 (zi underlying58 (zi tI_108 (zi zI_108 (zi eI_108 (zi eB_108 (zi eZ_108 (zi underlying108 (zi tI_111 (zi zI_111 (zi fI_111_0 (zi fI_111_1 (zi fI_111_2 bI_111)))))))))))))))))))))))))))))))))))))))))))))))
theorem c_l6Run {p : List Cl} (hp : ∀ c ∈ p, ClX c ∧ c.2.length ≤ 6) (hpl : p.length ≤ 20) {q : List Tm} (hq : ∀ t ∈ q, OkX 26 t ∧ t.k = 3) (h6 : q.length ≤ 6) {most fuel : Nat} (hm : most ≤ 20) (hf : fuel ≤ 300) (st : zy7) :
 zq7 prog 39 [.slice (p.map clAv), .slice (q.map Tm.av), .int .i64 (most : Int), .int .i64 (fuel : Int)] st (fun r st' => r = .tup [.slice ((solveR p (fun _ l => l) q most fuel).1.map ansAv), .int .i64 (solveR p (fun _ l => l) q most fuel).2] ∧ st' = st) := by
 have hnd : sumL Tm.nodes q ≤ 1099511627776 := by
  have := nodes_120 q fun t ht => (hq t ht).1.2
  omega
 have hva := fun st => c_l6Vars q st (fun t ht => Tm.cv_wf t (hq t ht).1.1.2.1) hnd
 have hst0 := fun st => c_l6Start q (fun t ht => (hq t ht).1) h6 st
 have hv : ∀ v ∈ tmsVars q [], 0 ≤ v ∧ v < 26 := fun v hv => by
  rcases (tmsVars_mem q [] fun t ht => (hq t ht).1.1.2.1).1 hv with h | ⟨t, ht, h⟩
  · cases h
  · exact (hq t ht).1.1.2.2 v h
 have hvl : (tmsVars q []).length ≤ 1000 := by
  have h1 := tmsVars_len q []
  have h2 := nodes_120 q fun t ht => (hq t ht).1.2
  simp only [List.length_nil] at h1
  omega
 have hstart := RsA.start (p := p) hq h6
 generalize hT : solveR p (fun _ l => l) q most fuel = T
 unfold solveR at hT
 generalize tmsVars q [] = vars at *
 have hI0 : RunI p vars most fuel T (rStart q) [] fuel 26 := ⟨by rw [← hT]; rfl, Nat.zero_le _, hstart, by omega⟩
 generalize rStart q = s0 at *
 simp only [rsAv] at hst0
 refine zq7.drop2 (zq7.fin (zq7.dropS ?_))
 refine wF [1000000, 12] 4 func39 ntmps39 rfl rfl ?_
 intro _
 simp -implicitDefEqProofs only [zy4, List.length_map, evF, ↓evZ, implies_true, seval, tf_R9_39]
 refine (hva _).to ?_
 simp -implicitDefEqProofs only [zy4, List.length_map, evF, ↓evZ, implies_true, seval, tf_R9_39]
 refine (hst0 _).to ?_
 simp -implicitDefEqProofs only [zy4, List.length_map, evF, ↓evZ, implies_true, seval, tf_R9_39]
 intro b12 h12
 refine zw5 (σ := RS × List (List Tm) × Nat × Nat × Nat) [1000000, 12] [0, 2, 11, 12] (fun x => RunI p vars most fuel T x.1 x.2.1 x.2.2.1 x.2.2.2.1 ∧ (x.2.1.map ansAv ≠ [] → (st.upd b12 (.cells [.slice (x.1.goals.map rgAv), .slice (arrN x.1.N x.1.σ), .slice (x.1.chs.map rcAv)])) x.2.2.2.2 = none))
  (fun x => [(3, .int .i64 (x.2.2.1 : Int)), (8, .fslice []), (9, .int .i64 0), (10, accV 1 x.2.2.2.2 (x.2.1.map ansAv))])
  (fun x => accS (st.upd b12 (.cells [.slice (x.1.goals.map rgAv), .slice (arrN x.1.N x.1.σ), .slice (x.1.chs.map rcAv)])) x.2.2.2.2 (x.2.1.map ansAv))
  (fun x => (most - x.2.1.length) + x.2.2.1) (by decide +kernel) ⟨(s0, [], fuel, 26, 0), ⟨hI0, by simp⟩, zx7.mk (by simp -implicitDefEqProofs only [accV_nil, List.map_nil, zy4, List.length_map, evF, ↓evZ, implies_true, seval, tf_R9_39])⟩ ?_
 rintro ⟨s, out, f, B, b⟩ ⟨⟨tot, hlen, hok, hbd⟩, hb⟩
 simp only at tot hlen hok hbd hb
 simp only
 have hbc : out.map ansAv ≠ [] → b ≠ b12 := fun h => by rintro rfl; have := hb h; rw [zy7.upd_same] at this; cases this
 have hV12 := accS_other hb (zy7.upd_same st b12 (.cells [.slice (s.goals.map rgAv), .slice (arrN s.N s.σ), .slice (s.chs.map rcAv)]))
 have hlo : (out.map ansAv).length = out.length := List.length_map _
 have hjunk : ∀ l : List (List Tm), ∀ e ∈ l.map ansAv, e.isJunk = false := fun l e he => by simp only [List.mem_map] at he; obtain ⟨t, _, rfl⟩ := he; rfl
 have hwid : ∀ l : List (List Tm), ∀ e ∈ l.map ansAv, e.width = 1 := fun l e he => by simp only [List.mem_map] at he; obtain ⟨t, _, rfl⟩ := he; rfl
 have fin : ∀ (S : zy7) (b : Nat) (l : List (List Tm)) (e : Int), (l.map ansAv ≠ [] → S b = none) → Drops S st → T = (l, e) → ∃ s2, Drops (accS S b (l.map ansAv)) s2 ∧ ∃ b' l' s0, s2 = accS s0 b' l' ∧ (l' ≠ [] → s0 b' = none) ∧ (∀ e ∈ l', e.isJunk = false) ∧ Even l' ∧ (AV.tup [accV 1 b (l.map ansAv), .int .i64 e]).fin b' l' = .tup [.slice (T.1.map ansAv), .int .i64 T.2] ∧ Drops s0 st := fun S b l e h1 h2 h3 =>
  ⟨_, Drops.refl _, b, l.map ansAv, S, rfl, h1, hjunk l, ⟨1, hwid l⟩, by subst h3; simp only [fin_agg, fin_tup, fin_int, fin_bool, fin_str, fin_slice, fin_fslice, fin_pptr, fin_ptr, fin_func, fin_map, fin_undef, fin_accV, tm_fin, List.map_cons, List.map_nil], h2⟩
 have hSD : ∀ o, Drops (st.upd b12 o) st := fun o => (Drops.refl _).upd h12
 generalize hX : (AO.cells [.slice (s.goals.map rgAv), .slice (arrN s.N s.σ), .slice (s.chs.map rcAv)]) = X at hV12 hb
 have hV12 := hV12.trans (congrArg some hX.symm)
 have hun : prog.underlying 26 = some (.slice 51) := by kernel_rfl
 have hlenA := accV_len (w := 1) (b := b) (l := out.map ansAv) hun
 rw [hlo] at hlenA
 cases hgs : s.goals with
 | nil =>
  rw [hgs] at hX hV12
  simp only [List.map_nil] at hX hV12
  rw [rRun_nil hgs] at tot
  simp -implicitDefEqProofs only [zy4, List.length_map, List.length_nil, List.length_cons, hlenA, hV12, accV_junk, accV_store, accV_agg, accV_cells, evF, ↓evZ, implies_true, seval, tf_R9_39]
  refine zq4 (fun h => ?_) (fun h => ?_)
  · have h' : out.length = most := by simp at h; omega
    rw [if_pos (by omega)] at tot
    simp -implicitDefEqProofs only [zy4, List.length_map, List.length_nil, List.length_cons, hlenA, hV12, accV_junk, accV_store, accV_agg, accV_cells, evF, ↓evZ, implies_true, seval, tf_R9_39]
    exact fin _ b out 1 hb (hSD _) (by rw [tot, List.append_nil])
  have h' : out.length < most := by simp at h; omega
  rw [if_neg (by omega)] at tot
  simp -implicitDefEqProofs only [zy4, List.length_map, List.length_nil, List.length_cons, hlenA, hV12, accV_junk, accV_store, accV_agg, accV_cells, evF, ↓evZ, implies_true, seval, tf_R9_39]
  refine (c_l6Answer (N := s.N) hok.a.good hok.a.ok vars (fun v h => ⟨(hv v h).1, by have := (hv v h).2; have := hok.l.1; omega⟩) hvl _).mono ?_
  rintro _ _ ⟨rfl, a, rfl, ha⟩
  cases hans : ansR s.σ vars with
  | none =>
   rw [hans] at tot
   simp only [Option.isSome_none, ansAv]
   simp -implicitDefEqProofs only [zy4, List.length_map, List.length_nil, List.length_cons, hlenA, hV12, accV_junk, accV_store, accV_agg, accV_cells, evF, ↓evZ, implies_true, seval, tf_R9_39]
   exact fin _ b out 3 hb (hSD _) (by rw [tot, List.append_nil])
  | some x =>
   obtain rfl := ha x hans
   rw [hans] at tot
   simp only [Option.isSome_some, ansAv] at tot ⊢
   simp -implicitDefEqProofs only [zy4, List.length_map, List.length_nil, List.length_cons, hlenA, hV12, accV_junk, accV_store, accV_agg, accV_cells, evF, ↓evZ, implies_true, seval, tf_R9_39]
   refine acc_append (P := prog) (b := b) (l := out.map ansAv) (xs := [ansAv a]) eI_26 eB_26 eZ_26 rfl rfl (by intro e he; simp only [List.mem_cons, List.not_mem_nil, or_false] at he; subst he; exact ⟨rfl, rfl⟩) (hwid out) hb (by simp only [List.length_cons, List.length_nil, hlo]; omega) (by simp only [List.length_cons, List.length_nil, hlo]; omega) (fun b' hb' => ?_)
   rw [show (out.map ansAv) ++ [ansAv a] = (out ++ [a]).map ansAv by simp] at hb' ⊢
   have hV12' := (accS_other hb' (zy7.upd_same st b12 X)).trans (congrArg some hX.symm)
   simp -implicitDefEqProofs only [zy4, List.length_map, List.length_nil, List.length_cons, hV12', accV_junk, accV_store, accV_agg, accV_cells, evF, ↓evZ, implies_true, seval, tf_R9_39]
   have hcast : (f : Int) = (f : Int) := rfl
   refine (c_l6Back hp (B := B) (by omega) [] (arrN s.N s.σ) s.chs hok.a.chl hok.a.chs _).mono ?_
   rintro r _ ⟨rfl, hr⟩
   cases hbk : rBack p s.chs.length s.chs with
   | none =>
    rw [hbk] at hr tot
    simp only at hr tot
    obtain ⟨l1, l2, l3, rfl⟩ := hr
    simp -implicitDefEqProofs only [zy4, List.length_map, List.length_nil, List.length_cons, hV12', accV_junk, accV_store, accV_agg, accV_cells, evF, ↓evZ, implies_true, seval, tf_R9_39]
    exact fin _ b' (out ++ [a]) 0 hb' (hSD _) (by rw [tot]; try rw [List.append_nil])
   | some s' =>
    rw [hbk] at hr tot
    simp only [rsAv] at hr tot
    subst hr
    simp -implicitDefEqProofs only [zy4, List.length_map, List.length_nil, List.length_cons, hV12', accV_junk, accV_store, accV_agg, accV_cells, evF, ↓evZ, implies_true, seval, tf_R9_39]
    rw [accS_updC (fun h => by rintro rfl; have := hb' h; rw [zy7.upd_same] at this; cases this), zy7.upd_upd]
    have hne : (out ++ [a]).map ansAv ≠ [] → b' ≠ b12 := fun h => by rintro rfl; have := hb' h; rw [zy7.upd_same] at this; cases this
    refine ⟨(s', out ++ [a], f, B, b'), by simp only [List.length_append, List.length_cons, List.length_nil]; omega, ⟨⟨by rw [tot]; try simp only [List.append_assoc, List.cons_append, List.nil_append, List.length_append, List.length_cons, List.length_nil, Nat.sub_sub]; try rfl, by simp only [List.length_append, List.length_cons, List.length_nil]; omega, hok.back hp (by omega) hbk, by simp only; omega⟩, fun h => by rw [zy7.upd_ne _ _ (hne h)]; have := hb' h; rwa [zy7.upd_ne _ _ (hne h)] at this⟩, zx7.mk (by simp -implicitDefEqProofs only [hcast, zy4, List.length_map, List.length_nil, List.length_cons, hV12', accV_junk, accV_store, accV_agg, accV_cells, evF, ↓evZ, implies_true, seval, tf_R9_39])⟩
 | cons g rest =>
  rw [hgs] at hX hV12
  rw [rRun_cons hgs] at tot
  simp -implicitDefEqProofs only [zy4, List.length_map, List.length_nil, List.length_cons, hlenA, hV12, accV_junk, accV_store, accV_agg, accV_cells, evF, ↓evZ, implies_true, seval, tf_R9_39]
  refine zq4 (fun h => absurd h (by simp; omega)) (fun h => ?_)
  simp -implicitDefEqProofs only [zy4, List.length_map, List.length_nil, List.length_cons, hlenA, hV12, accV_junk, accV_store, accV_agg, accV_cells, evF, ↓evZ, implies_true, seval, tf_R9_39]
  refine zq4 (fun h => ?_) (fun h => ?_)
  · have h' : f = 0 := by simp at h; omega
    rw [if_pos h'] at tot
    simp -implicitDefEqProofs only [zy4, List.length_map, List.length_nil, List.length_cons, hlenA, hV12, accV_junk, accV_store, accV_agg, accV_cells, evF, ↓evZ, implies_true, seval, tf_R9_39]
    exact fin _ b out 2 hb (hSD _) (by rw [tot, List.append_nil])
  have h' : f ≠ 0 := by simp at h; omega
  rw [if_neg h'] at tot
  have hw := wrap64 (n := (f : Int) - 1) (by omega) (by omega)
  simp -implicitDefEqProofs only [hw, zy4, List.length_map, List.length_nil, List.length_cons, hlenA, hV12, accV_junk, accV_store, accV_agg, accV_cells, evF, ↓evZ, implies_true, seval, tf_R9_39]
  have hst := c_l6Step hp (by omega) (B := B) (by omega) s.goals s.σ s.N s.chs g rest hgs hok.a hok.k
  rw [hgs, List.map_cons] at hst
  refine (hst _).mono ?_
  rintro r _ ⟨rfl, hr⟩
  have hse : (⟨g :: rest, s.σ, s.N, s.chs⟩ : RS) = s := by rw [← hgs]
  rw [hse] at hr
  cases hstep : rStep p (fun _ l => l) s g rest with
  | go s' =>
   rw [hstep] at hr tot
   simp only [StepR, rsAv] at hr tot
   subst hr
   simp -implicitDefEqProofs only [zy4, List.length_map, List.length_nil, List.length_cons, hlenA, hV12, accV_junk, accV_store, accV_agg, accV_cells, evE, ↓evZ2, ↓evZ3, ↓Int.cast_ofNat_Int, implies_true, zy2, aFn, List.contains, List.elem, zq3, zy1, zq2, sub, zx3, zw2, zw3, zy3, gd, zq1, zw0, zq0, zx0, zx2, zx1, zy0, zw1, List.range', ↓reduceIte, reduceCtorEq, Nat.reduceEqDiff, Nat.reduceAdd, Nat.reduceLeDiff, Nat.reduceMul, Nat.reduceLT, Nat.reduceBEq, Int.reduceEq, tf_R9_39]
   refine zq4 (fun h => absurd h (by decide)) (fun h => ?_)
   simp -implicitDefEqProofs only [zy4, List.length_map, List.length_nil, List.length_cons, hlenA, hV12, accV_junk, accV_store, accV_agg, accV_cells, evF, ↓evZ, implies_true, seval, tf_R9_39]
   rw [accS_updC hbc, zy7.upd_upd]
   have hcast : ((f - 1 : Nat) : Int) = (f : Int) - 1 := by omega
   refine ⟨(s', out, f - 1, B + 26, b), by simp only; omega, ⟨⟨tot, hlen, hok.step hp (by omega) (by omega) (cnd := fun _ l => l) (fun _ _ => ⟨fun _ h => h, Nat.le_refl _⟩) hgs hstep, by simp only; omega⟩, fun h => by rw [zy7.upd_ne _ _ (hbc h)]; have := hb h; rwa [zy7.upd_ne _ _ (hbc h)] at this⟩, zx7.mk (by simp -implicitDefEqProofs only [hcast, zy4, List.length_map, List.length_nil, List.length_cons, hlenA, hV12, accV_junk, accV_store, accV_agg, accV_cells, evF, ↓evZ, implies_true, seval, tf_R9_39])⟩
  | fail =>
   rw [hstep] at hr tot
   simp only [StepR] at hr tot
   obtain ⟨l1, l2, l3, rfl⟩ := hr
   simp -implicitDefEqProofs only [zy4, List.length_map, List.length_nil, List.length_cons, hlenA, hV12, accV_junk, accV_store, accV_agg, accV_cells, evE, ↓evZ2, ↓evZ3, ↓Int.cast_ofNat_Int, implies_true, zy2, aFn, List.contains, List.elem, zq3, zy1, zq2, sub, zx3, zw2, zw3, zy3, gd, zq1, zw0, zq0, zx0, zx2, zx1, zy0, zw1, List.range', ↓reduceIte, reduceCtorEq, Nat.reduceEqDiff, Nat.reduceAdd, Nat.reduceLeDiff, Nat.reduceMul, Nat.reduceLT, Nat.reduceBEq, Int.reduceEq, tf_R9_39]
   refine zq4 (fun h => absurd h (by decide)) (fun h => ?_)
   simp -implicitDefEqProofs only [zy4, List.length_map, List.length_nil, List.length_cons, hlenA, hV12, accV_junk, accV_store, accV_agg, accV_cells, evF, ↓evZ, implies_true, seval, tf_R9_39]
   have hcast : ((f - 1 : Nat) : Int) = (f : Int) - 1 := by omega
   refine (c_l6Back hp (B := B) (by omega) (g :: rest) (arrN s.N s.σ) s.chs hok.a.chl hok.a.chs _).mono ?_
   rintro r _ ⟨rfl, hr⟩
   cases hbk : rBack p s.chs.length s.chs with
   | none =>
    rw [hbk] at hr tot
    simp only at hr tot
    obtain ⟨l1, l2, l3, rfl⟩ := hr
    simp -implicitDefEqProofs only [zy4, List.length_map, List.length_nil, List.length_cons, hlenA, hV12, accV_junk, accV_store, accV_agg, accV_cells, evF, ↓evZ, implies_true, seval, tf_R9_39]
    exact fin _ b (out) 0 hb (hSD _) (by rw [tot]; try rw [List.append_nil])
   | some s' =>
    rw [hbk] at hr tot
    simp only [rsAv] at hr tot
    subst hr
    simp -implicitDefEqProofs only [zy4, List.length_map, List.length_nil, List.length_cons, hlenA, hV12, accV_junk, accV_store, accV_agg, accV_cells, evF, ↓evZ, implies_true, seval, tf_R9_39]
    rw [accS_updC (fun h => by rintro rfl; have := hb h; rw [zy7.upd_same] at this; cases this), zy7.upd_upd]
    have hne : (out).map ansAv ≠ [] → b ≠ b12 := fun h => by rintro rfl; have := hb h; rw [zy7.upd_same] at this; cases this
    refine ⟨(s', out, f - 1, B, b), by simp only [List.length_append, List.length_cons, List.length_nil]; omega, ⟨⟨by rw [tot]; try simp only [List.append_assoc, List.cons_append, List.nil_append, List.length_append, List.length_cons, List.length_nil, Nat.sub_sub]; try rfl, by simp only [List.length_append, List.length_cons, List.length_nil]; omega, hok.back hp (by omega) hbk, by simp only; omega⟩, fun h => by rw [zy7.upd_ne _ _ (hne h)]; have := hb h; rwa [zy7.upd_ne _ _ (hne h)] at this⟩, zx7.mk (by simp -implicitDefEqProofs only [hcast, zy4, List.length_map, List.length_nil, List.length_cons, hlenA, hV12, accV_junk, accV_store, accV_agg, accV_cells, evF, ↓evZ, implies_true, seval, tf_R9_39])⟩
  | stop e =>
   rw [hstep] at hr tot
   simp only [StepR] at hr tot
   obtain ⟨he0, l1, l2, l3, rfl⟩ := hr
   simp -implicitDefEqProofs only [zy4, List.length_map, List.length_nil, List.length_cons, hlenA, hV12, accV_junk, accV_store, accV_agg, accV_cells, evF, ↓evZ, implies_true, seval, tf_R9_39]
   refine zq4 (fun h => ?_) (fun h => absurd he0 (by simpa using h))
   simp -implicitDefEqProofs only [zy4, List.length_map, List.length_nil, List.length_cons, hlenA, hV12, accV_junk, accV_store, accV_agg, accV_cells, evF, ↓evZ, implies_true, seval, tf_R9_39]
   exact fin _ b out e hb (hSD _) (by rw [tot, List.append_nil])
end Go.AW
namespace Go.AW
def MadeT (st : zy7) (xs : List AV) (r : AV) (st' : zy7) : Prop := ∃ (os : List AV) (bs : List Nat), r = .tup os ∧ bs.Nodup ∧ (∀ b ∈ bs, st b = none) ∧ OwnL st' xs os bs ∧ ∀ b, b ∉ bs → st' b = st b
theorem OwnL.viewT {h : Heap} {st s0 : zy7} (S : SRel h st) (D : Drops st s0) : ∀ (xs os : List AV) (bs : List Nat) (vs : List Value), OwnL st xs os bs → (∀ b ∈ bs, s0 b = none) → VTs h st os vs → VTs h s0 xs vs
 | [], os, bs, vs, x, _, y => by simp only [OwnL] at x; rw [x.1] at y; exact y
 | a :: xs, os, bs, vs, x, hb, y => by
  simp only [OwnL] at x
  obtain ⟨o, os', b1, b2, rfl, rfl, x1, x2⟩ := x
  simp only [VTs] at y ⊢
  obtain ⟨v, r, e, ⟨y0, y1⟩, y2⟩ := y
  exact ⟨v, r, e, ⟨x1.shape.1.symm.trans y0, Own.view S D a o b1 _ x1 (fun q hq => hb q (by simp [hq])) y1⟩, OwnL.viewT S D xs os' b2 r x2 (fun q hq => hb q (by simp [hq])) y2⟩
theorem zq7.madeT {P : Program} {g : FuncId} {args : List AV} {st : zy7} {xs : List AV} (x : zq7 P g args st (MadeT st xs)) : zq7 P g args st (fun r st' => r = .tup xs ∧ st' = st) :=
 x.weak fun r st' ⟨os, bs, hr, _, h2, h3, h4⟩ => by
  have D : Drops st' st := fun b => ⟨fun e => by
   by_cases hb : b ∈ bs
   · exact h2 b hb
   · rw [← h4 b hb]; exact e, fun o e => by
   by_cases hb : b ∈ bs
   · rw [h2 b hb] at e; cases e
   · rw [h4 b hb]; exact e⟩
  refine ⟨.tup xs, st, D.weakS, fun h v S y => ?_, rfl, rfl⟩
  subst hr
  obtain ⟨y0, y1⟩ := y
  refine ⟨y0, ?_⟩
  unfold VC at y1 ⊢
  obtain ⟨vs, e, y2⟩ := y1
  exact ⟨vs, e, OwnL.viewT S D xs os bs vs h3 h2 y2⟩
theorem Own.one' {st : zy7} {es : List AV} {q : AV} {bs : List Nat} (h : Own st (.slice es) q bs) : q.cells = [q] ∧ q.storable = true ∧ q.isAgg = false ∧ q.width = 1 ∧ q.isJunk = false := by
 simp only [Own] at h
 rcases h with ⟨_, rfl, _⟩ | ⟨_, _, _, _, rfl, _⟩ <;> exact ⟨rfl, rfl, rfl, rfl, rfl⟩
theorem own_agg1 {s : zy7} {x o : AV} {bs : List Nat} : Own s (.agg [x]) o bs ↔ ∃ q, o = .agg [q] ∧ Own s x q bs := by
 simp only [Own, OwnL]
 constructor
 · rintro ⟨os, rfl, o1, os1, b1, b2, rfl, rfl, h, rfl, rfl⟩
   exact ⟨o1, rfl, by simpa using h⟩
 · rintro ⟨q, rfl, h⟩
   exact ⟨_, rfl, q, [], bs, [], rfl, by simp, h, rfl, rfl⟩
theorem ownL_2 {s : zy7} {x y : AV} {os : List AV} {bs : List Nat} : OwnL s [x, y] os bs ↔ ∃ o1 o2 b1 b2, os = [o1, o2] ∧ bs = b1 ++ b2 ∧ Own s x o1 b1 ∧ Own s y o2 b2 := by
 simp only [OwnL]
 constructor
 · rintro ⟨o1, os1, b1, b1', rfl, rfl, h1, o2, os2, b2, b2', rfl, rfl, h2, rfl, rfl⟩
   exact ⟨o1, o2, b1, b2, rfl, by simp, h1, h2⟩
 · rintro ⟨o1, o2, b1, b2, rfl, rfl, h1, h2⟩
   exact ⟨o1, [o2], b1, b2, rfl, rfl, h1, o2, [], b2, [], rfl, by simp, h2, rfl, rfl⟩
theorem own_bool {s : zy7} {b : Bool} {o : AV} {bs : List Nat} : Own s (.bool b) o bs ↔ o = .bool b ∧ bs = [] := by simp only [Own]
theorem MadeT.ofMade {st st' : zy7} {a o : AV} {b : Bool} (h : Made st a o st') : MadeT st [a, .bool b] (.tup [o, .bool b]) st' := by
 obtain ⟨bs, h1, h2, h3, h4⟩ := h
 exact ⟨_, bs, rfl, h1, h2, ownL_2.2 ⟨o, .bool b, bs, [], rfl, by simp, h3, own_bool.2 ⟨rfl, rfl⟩⟩, h4⟩
end Go.AW
namespace Go.AW
open Go.Proofs.Tryz

section
variable {S : zy7} {c b w : Nat} {hd tl l : List AV}
end
structure Ss where
 p : List Cl
 q : List Tm
 quota : Int
 used : Int
 sent : Int
 fin : Int

def solveOk (p : List Cl) (q : List Tm) (most fuel : Int) : Bool := progOk p && (queryOk q && (decide (0 ≤ most) && (decide (most ≤ 20) && (decide (0 ≤ fuel) && decide (fuel ≤ 300)))))
noncomputable def solveS (p : List Cl) (cnd : Tm → List Nat → List Nat) (q : List Tm) (most fuel : Int) : List (List Tm) × Int := if solveOk p q most fuel = true then solveR p cnd q most.toNat fuel.toNat else ([], 9)
theorem progOk_X {p : List Cl} (h : progOk p = true) : p.length ≤ 20 ∧ ∀ c ∈ p, ClX c ∧ c.2.length ≤ 6 := by
 simp only [progOk, Bool.and_eq_true, decide_eq_true_eq, List.all_eq_true] at h
 refine ⟨h.1, fun c hc => ⟨clOk_X (h.2 c hc), ?_⟩⟩
 have := h.2 c hc
 simp only [clOk, Bool.and_eq_true, decide_eq_true_eq, List.all_eq_true] at this
 exact this.2.1
theorem queryOk_X {q : List Tm} (h : queryOk q = true) : q.length ≤ 6 ∧ ∀ t ∈ q, OkX 26 t ∧ t.k = 3 := by
 simp only [queryOk, Bool.and_eq_true, decide_eq_true_eq, List.all_eq_true] at h
 refine ⟨h.1, fun t ht => ?_⟩
 have hg := h.2 t ht
 have hk : t.valid = true ∧ t.k = 3 := by
  obtain ⟨k, n, s, ts⟩ := t
  simp only [Tm.goal, Bool.and_eq_true] at hg
  refine ⟨hg.1, ?_⟩
  have := hg.2
  simp only [goalOk, plainGoal, Bool.or_eq_true, Bool.and_eq_true, decide_eq_true_eq] at this
  simp only [Tm.k]
  rcases this with (h | h) | h <;> first | exact h.1 | exact h.1.1 | exact h.1.1.1
 exact ⟨⟨Tm.valid_okV hk.1, Tm.valid_nodes hk.1⟩, hk.2⟩
abbrev tf_R10_9 := zi tI_3 (zi zI_3 (zi underlying3 (zi tI_4 (zi zI_4 (zi underlying4 (zi tI_26 (zi zI_26 (zi eI_26 (zi eB_26 (zi eZ_26 (zi underlying26 (zi tI_29 (zi zI_29 (zi eI_29 (zi eB_29 (zi eZ_29 (zi underlying29 (zi tI_31 (zi zI_31 (zi eI_31 (zi eB_31 (zi eZ_31 underlying31))))))))))))))))))))))
theorem c_spec_Solve (p : List Cl) (q : List Tm) (most fuel : Int) (st : zy7) :
 zq7 prog 9 [.slice (p.map clAv), .slice (q.map Tm.av), .int .i64 most, .int .i64 fuel] st (fun r st' => r = .tup [.slice ((solveS p (fun _ l => l) q most fuel).1.map ansAv), .int .i64 (solveS p (fun _ l => l) q most fuel).2] ∧ st' = st) := by
 refine zq7.done ?_
 have hbad : solveOk p q most fuel = false → ∀ {st'}, st' = st → (AV.tup [AV.fslice [], .int .i64 9]).soft = .tup [.slice ((solveS p (fun _ l => l) q most fuel).1.map ansAv), .int .i64 (solveS p (fun _ l => l) q most fuel).2] ∧ Drops st' st := fun h _ e => by
  subst e
  unfold solveS
  rw [if_neg (by rw [h]; simp)]
  exact ⟨by simp only [soft_agg, soft_tup, soft_int, soft_bool, soft_str, soft_slice, soft_fslice, soft_ptr, soft_pptr, soft_map, soft_mslice, Tm.soft, List.map_cons, List.map_nil], Drops.refl _⟩
 refine wF [1000000] 4 func9 ntmps9 rfl rfl ?_
 intro _
 simp -implicitDefEqProofs only [List.length_map, evF, ↓evZ, implies_true, seval, tf_R10_9]
 refine (c_spec_ProgramValid p _).to ?_
 simp -implicitDefEqProofs only [List.length_map, evF, ↓evZ, implies_true, seval, tf_R10_9]
 refine zx4 (fun h => ?_) (fun h => ?_)
 case refine_2 =>
  simp -implicitDefEqProofs only [h, List.length_map, evF, ↓evZ, implies_true, seval, tf_R10_9]
  exact hbad (by simp at h; simp [solveOk, h]) rfl
 have hp : progOk p = true := by simpa using h
 simp -implicitDefEqProofs only [h, List.length_map, evF, ↓evZ, implies_true, seval, tf_R10_9]
 refine (c_spec_QueryValid q _).to ?_
 simp -implicitDefEqProofs only [h, List.length_map, evF, ↓evZ, implies_true, seval, tf_R10_9]
 refine zx4 (fun h2 => ?_) (fun h2 => ?_)
 case refine_2 =>
  simp -implicitDefEqProofs only [h2, List.length_map, evF, ↓evZ, implies_true, seval, tf_R10_9]
  exact hbad (by simp at h2; simp [solveOk, h2]) rfl
 have hq : queryOk q = true := by simpa using h2
 simp -implicitDefEqProofs only [h2, List.length_map, evF, ↓evZ, implies_true, seval, tf_R10_9]
 refine zx4 (fun h3 => ?_) (fun h3 => ?_)
 case refine_2 =>
  simp -implicitDefEqProofs only [h3, List.length_map, evF, ↓evZ, implies_true, seval, tf_R10_9]
  exact hbad (by simp at h3; simp only [solveOk]; rw [show decide (0 ≤ most) = false from decide_eq_false (by omega)]; simp) rfl
 have h3' : 0 ≤ most := by simpa using h3
 simp -implicitDefEqProofs only [h3, List.length_map, evF, ↓evZ, implies_true, seval, tf_R10_9]
 refine zx4 (fun h4 => ?_) (fun h4 => ?_)
 case refine_2 =>
  simp -implicitDefEqProofs only [h4, List.length_map, evF, ↓evZ, implies_true, seval, tf_R10_9]
  exact hbad (by simp at h4; simp only [solveOk]; rw [show decide (most ≤ 20) = false from decide_eq_false (by omega)]; simp) rfl
 have h4' : most ≤ 20 := by simpa using h4
 simp -implicitDefEqProofs only [h4, List.length_map, evF, ↓evZ, implies_true, seval, tf_R10_9]
 refine zx4 (fun h5 => ?_) (fun h5 => ?_)
 case refine_2 =>
  simp -implicitDefEqProofs only [h5, List.length_map, evF, ↓evZ, implies_true, seval, tf_R10_9]
  exact hbad (by simp at h5; simp only [solveOk]; rw [show decide (0 ≤ fuel) = false from decide_eq_false (by omega)]; simp) rfl
 have h5' : 0 ≤ fuel := by simpa using h5
 simp -implicitDefEqProofs only [h5, List.length_map, evF, ↓evZ, implies_true, seval, tf_R10_9]
 refine zq4 (fun h6 => ?_) (fun h6 => ?_)
 · simp -implicitDefEqProofs only [List.length_map, evF, ↓evZ, implies_true, seval, tf_R10_9]
   exact hbad (by simp at h6; simp only [solveOk]; rw [show decide (fuel ≤ 300) = false from decide_eq_false (by omega)]; simp) rfl
 have h6' : fuel ≤ 300 := by simpa using h6
 obtain ⟨p1, p2⟩ := progOk_X hp
 obtain ⟨q1, q2⟩ := queryOk_X hq
 obtain ⟨m, rfl⟩ := Int.eq_ofNat_of_zero_le h3'
 obtain ⟨f, rfl⟩ := Int.eq_ofNat_of_zero_le h5'
 simp -implicitDefEqProofs only [List.length_map, evF, ↓evZ, implies_true, seval, tf_R10_9]
 refine (c_l6Run p2 p1 q2 q1 (by omega) (by omega) _).to ?_
 simp -implicitDefEqProofs only [List.length_map, evF, ↓evZ, implies_true, seval, tf_R10_9]
 refine ⟨?_, Drops.refl _⟩
 have hok : solveOk p q m f = true := by simp [solveOk, hp, hq, h4', h6']
 unfold solveS
 rw [if_pos hok]
 simp only [soft_agg, soft_tup, soft_int, soft_bool, soft_str, soft_slice, soft_fslice, soft_ptr, soft_pptr, soft_map, soft_mslice, Tm.soft, List.map_cons, List.map_nil, Int.toNat_natCast]
end Go.AW
namespace Go.AW
def AnsOk (vars : List Int) (a : List Tm) : Prop := a.length = vars.length ∧ a.all Tm.valid = true
theorem ansR_ok {N : Nat} {σ : Sub} (hg : IsGood σ) (ho : AllS (OkX N) σ) {vars : List Int} (hv : ∀ v ∈ vars, 0 ≤ v ∧ v < (N : Int)) {a : List Tm} (h : ansR σ vars = some a) : AnsOk vars a := by
 obtain ⟨rk, B, G⟩ := hg.rs
 unfold ansR at h
 split at h
 · rename_i hh
   cases h
   obtain ⟨h1, h2⟩ := hh
   have hok : ∀ t ∈ vars.map (rs σ), OkX N t := fun t ht => by
    obtain ⟨v, hvm, rfl⟩ := List.mem_map.1 ht
    have hf := List.all_eq_true.1 h1 _ ht
    unfold fitT at hf
    simp only [Bool.and_eq_true, decide_eq_true_eq] at hf
    exact ⟨G.okV ho.okV v (hv v hvm).1 (hv v hvm).2, hf.2⟩
   exact ⟨by rw [renumL_one_ok hok, List.length_map], by rw [renumL_valid hok h1, decide_eq_true_eq]; exact h2⟩
 · cases h
theorem rRun_ok {p : List Cl} (hp : ∀ c ∈ p, ClX c ∧ c.2.length ≤ 6) (hpl : p.length ≤ 20) {cnd : Tm → List Nat → List Nat} (hd : ∀ t l, (∀ i ∈ cnd t l, i ∈ l) ∧ (cnd t l).length ≤ l.length) {vars : List Int} (hv : ∀ v ∈ vars, 0 ≤ v ∧ v < 26) :
 ∀ (n most fuel : Nat) (s : RS) (B : Nat), most + fuel ≤ n → RsA p B s → B + 26 * fuel ≤ 8000 → (rRun p cnd vars most fuel s).1.length ≤ most ∧ ∀ a ∈ (rRun p cnd vars most fuel s).1, AnsOk vars a := by
 intro n
 induction n with
 | zero =>
  intro most fuel s B hn hs hB
  obtain rfl : most = 0 := by omega
  obtain rfl : fuel = 0 := by omega
  cases hg : s.goals with
  | nil => rw [rRun_nil hg]; simp
  | cons g rest => rw [rRun_cons hg]; simp
 | succ n ih =>
  intro most fuel s B hn hs hB
  cases hg : s.goals with
  | nil =>
   rw [rRun_nil hg]
   by_cases hm : most = 0
   · rw [if_pos hm]; simp
   rw [if_neg hm]
   cases ha : ansR s.σ vars with
   | none => simp
   | some a =>
    have hok := ansR_ok hs.a.good hs.a.ok (fun v h => ⟨(hv v h).1, by have := (hv v h).2; have := hs.l.1; omega⟩) ha
    simp only
    cases hb : rBack p s.chs.length s.chs with
    | none =>
     simp only [List.length_cons, List.length_nil, List.mem_cons, List.not_mem_nil, or_false]
     exact ⟨by omega, fun x hx => by rw [hx]; exact hok⟩
    | some s' =>
     obtain ⟨h1, h2⟩ := ih (most - 1) fuel s' B (by omega) (hs.back hp (by omega) hb) hB
     simp only [List.length_cons, List.mem_cons]
     refine ⟨by omega, fun x hx => ?_⟩
     rcases hx with rfl | hx
     · exact hok
     · exact h2 x hx
  | cons g rest =>
   rw [rRun_cons hg]
   by_cases hf : fuel = 0
   · rw [if_pos hf]; simp
   rw [if_neg hf]
   cases hst : rStep p cnd s g rest with
   | stop e => simp
   | go s' => exact ih most (fuel - 1) s' (B + 26) (by omega) (hs.step hp (by omega) (by omega) hd hg hst) (by omega)
   | fail =>
    simp only
    cases hb : rBack p s.chs.length s.chs with
    | none => simp
    | some s' => exact ih most (fuel - 1) s' B (by omega) (hs.back hp (by omega) hb) (by omega)
theorem qvars_ok {q : List Tm} (hq : ∀ t ∈ q, OkX 26 t ∧ t.k = 3) : (∀ v ∈ tmsVars q [], 0 ≤ v ∧ v < 26) ∧ (tmsVars q []).length ≤ 26 := by
 have hv : ∀ v ∈ tmsVars q [], 0 ≤ v ∧ v < 26 := fun v hv => by
  rcases (tmsVars_mem q [] fun t ht => (hq t ht).1.1.2.1).1 hv with h | ⟨t, ht, h⟩
  · cases h
  · exact (hq t ht).1.1.2.2 v h
 refine ⟨hv, ?_⟩
 have hnd := tmsVars_nodup q [] (fun t ht => Tm.cv_wf t (hq t ht).1.1.2.1) List.nodup_nil
 exact nodup_VN (N := 26) hnd fun n hn => hv n hn
theorem solveS_ok (p : List Cl) {cnd : Tm → List Nat → List Nat} (hd : ∀ t l, (∀ i ∈ cnd t l, i ∈ l) ∧ (cnd t l).length ≤ l.length) (q : List Tm) (most fuel : Int) : (solveS p cnd q most fuel).1.length ≤ 20 ∧ ∀ a ∈ (solveS p cnd q most fuel).1, a.length ≤ 26 ∧ a.all Tm.valid = true := by
 unfold solveS
 split
 · rename_i h
   simp only [solveOk, Bool.and_eq_true, decide_eq_true_eq] at h
   obtain ⟨hp, hq, h1, h2, h3, h4⟩ := h
   obtain ⟨p1, p2⟩ := progOk_X hp
   obtain ⟨q1, q2⟩ := queryOk_X hq
   obtain ⟨v1, v2⟩ := qvars_ok q2
   obtain ⟨r1, r2⟩ := rRun_ok p2 p1 hd v1 _ most.toNat fuel.toNat (rStart q) 26 (Nat.le_refl _) (RsA.start q2 q1) (by omega)
   unfold solveR
   refine ⟨by omega, fun a ha => ?_⟩
   obtain ⟨h5, h6⟩ := r2 a ha
   exact ⟨by omega, h6⟩
 · simp
mutual
theorem Tm.flat_up : ∀ (t : Tm) (d : Nat), t.flat d = true → t.flat (d + 1) = true
 | .mk _ _ _ _, 0, h => by simp [Tm.flat] at h
 | .mk _ _ _ ts, d + 1, h => by
  simp only [Tm.flat] at h ⊢
  exact tmsFlat_up ts d h
theorem tmsFlat_up : ∀ (ts : List Tm) (d : Nat), tmsFlat ts d = true → tmsFlat ts (d + 1) = true
 | [], _, _ => rfl
 | t :: ts, d, h => by
  simp only [tmsFlat, Bool.and_eq_true] at h ⊢
  exact ⟨Tm.flat_up t d h.1, tmsFlat_up ts d h.2⟩
end
def eqG (a b : Tm) : Tm := .mk 3 0 ⟨#[61]⟩ [a, b]
theorem rs_vr : rs Sub.none = vr := by
 obtain ⟨rk, B, G⟩ := IsGood.none.rs
 funext n
 exact G.free rfl
theorem eqG_valid {a b : Tm} (h : queryOk [eqG a b] = true) : (eqG a b).valid = true ∧ a.valid = true ∧ b.valid = true := by
 have hv : (eqG a b).valid = true := by
  simp only [queryOk, List.all_cons, List.all_nil, Bool.and_true, Bool.and_eq_true] at h
  have h2 := h.2
  unfold eqG at h2 ⊢
  simp only [Tm.goal, Bool.and_eq_true] at h2
  exact h2.1
 have hA := Tm.valid_okA hv
 have hk := okA_kids (eqG a b) (show (3 : Int) ≠ 1 by decide) hA
 have ha := hk a (by simp [eqG, Tm.ts])
 have hb := hk b (by simp [eqG, Tm.ts])
 have hf := hv
 rw [Tm.valid_iff hA] at hf
 simp only [eqG, Tm.flat, tmsFlat, Tm.nodes_mk, sumL, Bool.and_eq_true, decide_eq_true_eq, Bool.and_true] at hf
 obtain ⟨⟨f1, f2⟩, f3⟩ := hf
 refine ⟨hv, ?_, ?_⟩
 · rw [Tm.valid_iff ha, Tm.flat_up a 29 f1, Bool.true_and, decide_eq_true_eq]; omega
 · rw [Tm.valid_iff hb, Tm.flat_up b 29 f2, Bool.true_and, decide_eq_true_eq]; omega
theorem appB_some' {a x : Tm} {bs : List Bd} (h : appB a bs = some x) : a.valid = true ∧ (bs.all fun b => b.2.valid) = true ∧ x = a.mapv (subB bs) ∧ x.valid = true := by
 unfold appB at h
 split at h
 · rename_i hc
   cases h
   exact ⟨hc.1, hc.2.1, rfl, hc.2.2⟩
 · cases h
theorem solve_eq {a b : Tm} (hq : queryOk [eqG a b] = true) : solveS [] (fun _ l => l) [eqG a b] 5 10 = (if (uniG Sub.none a b).1 = true then (match ansR (uniG Sub.none a b).2.1 (tmsVars [eqG a b] []) with | none => ([], (3 : Int)) | some x => ([x], (0 : Int))) else ([], (0 : Int)) : List (List Tm) × Int) := by
 obtain ⟨hv, ha, hb⟩ := eqG_valid hq
 have hO := Tm.valid_okV hv
 have hm : (eqG a b).mapv (rs Sub.none) = eqG a b := by rw [rs_vr, mapv_id _ hO.2.1]
 have hfit : fitT (eqG a b) = true := by
  have := Tm.valid_iff (Tm.valid_okA hv)
  unfold fitT
  rw [← this]; exact hv
 have hcut : cutT (eqG a b) = false := by
  have h : ¬ (eqG a b).s = ⟨#[33]⟩ := by
   show ¬ (⟨#[61]⟩ : ByteArray) = ⟨#[33]⟩
   decide
  unfold cutT
  simp [h]
 have hbi : isBuiltin (eqG a b).s ((eqG a b).ts.length : Int) = true := by
  show isBuiltin ⟨#[61]⟩ 2 = true
  decide
 have hsol : solveG Sub.none (eqG a b).s (eqG a b).ts = uniCG Sub.none a b := by
  show solveG Sub.none ⟨#[61]⟩ [a, b] = _
  simp only [solveG]
  rw [if_neg (by decide), if_pos trivial]
 have hst : rStep [] (fun _ l => l) (rStart [eqG a b]) ⟨eqG a b, 0⟩ [] = if (uniG Sub.none a b).1 = true then .go ⟨[], (uniG Sub.none a b).2.1, 26, []⟩ else .fail := by
  unfold rStep
  simp only [rStart, hm, hfit, hcut, hbi, hsol, Bool.true_eq_false, Bool.false_eq_true, if_false, if_true, uniCG, codeB, List.map_cons, List.map_nil]
  cases (uniG Sub.none a b).1
  · rw [if_neg (by decide), if_pos (by decide), if_neg (by decide)]
  · rw [if_pos (by decide), if_pos rfl]
 unfold solveS
 rw [if_pos (by unfold solveOk; rw [hq]; decide)]
 unfold solveR
 rw [show (5 : Int).toNat = 5 from rfl, show (10 : Int).toNat = 10 from rfl, rRun_cons (s := rStart [eqG a b]) (g := ⟨eqG a b, 0⟩) (rest := []) rfl, if_neg (by decide), hst]
 cases (uniG Sub.none a b).1
 · simp only [Bool.false_eq_true, if_false]
   rfl
 · simp only [if_true]
   rw [rRun_nil rfl, if_neg (by decide)]
   cases ansR (uniG Sub.none a b).2.1 (tmsVars [eqG a b] []) <;> rfl
theorem renum_inj {D : Int → Prop} {ι : Int → Int} (inj : ∀ v w, D v → D w → ι v = ι w → v = w) {y : Tm} (hw : y.wf = true) (hD : ∀ v ∈ y.vl, D v) : renum (ren ι y) = renum y := by
 obtain ⟨e1, e2⟩ := vars_map (D := D) (h := ι) inj (f := fun v => vr (ι v)) (fun _ _ => rfl) y hw hD [] (by simp)
 rw [List.map_nil] at e1
 have e1' : (ren ι y).vars [] = (y.vars []).map ι := e1
 unfold renum
 rw [e1', ren_mapv]
 refine mapv_congr y fun v hv => ?_
 rw [idxI_map inj v (hD v hv) _ _ e2]
theorem eq_law {a b : Tm} (hq : queryOk [eqG a b] = true) {L : List (List Tm)} (h : solveS [] (fun _ l => l) [eqG a b] 5 10 = (L, 0)) :
 (L = [] ∧ uniB a b = none) ∨ ∃ x bs, L = [x] ∧ uniB a b = some bs ∧ ∀ gs y, ansGoals [eqG a b] x = some gs → appB (eqG a b) bs = some y → ∃ z, gs = [z] ∧ z.valid = true ∧ y.valid = true ∧ renum z = renum y := by
 obtain ⟨hv, ha, hb⟩ := eqG_valid hq
 have hO := Tm.valid_okV hv
 rw [solve_eq hq] at h
 obtain ⟨r, σ, tr, hU, hR⟩ := unif_of ha hb
 obtain ⟨g, hrun⟩ := hU.run
 have hG := uniG_eq hrun
 rw [hG] at h
 simp only at h
 cases r with
 | false =>
  simp only [Bool.false_eq_true, if_false, Prod.mk.injEq, and_true] at h
  refine .inl ⟨h.symm, ?_⟩
  unfold uniB
  rw [hR, if_neg (by simp)]
 | true =>
  simp only [if_true] at h
  have hcv : ∀ t ∈ [eqG a b], t.cv = true := fun t ht => by simp only [List.mem_cons, List.not_mem_nil, or_false] at ht; subst ht; exact hO.2.1
  have hmem : ∀ v, v ∈ tmsVars [eqG a b] [] ↔ v ∈ (eqG a b).vl := fun v => by rw [tmsVars_mem _ _ hcv]; simp
  have hnd := tmsVars_nodup [eqG a b] [] (fun t ht => Tm.cv_wf t (hcv t ht)) List.nodup_nil
  obtain ⟨rk, B, G⟩ := hU.uni.good.rs
  have hoV : AllS (OkV 26) σ := hU.okA.imp fun t ht => okV_26.1 ht
  have hvr : ∀ v ∈ tmsVars [eqG a b] [], 0 ≤ v ∧ v < 26 := fun v hv => hO.2.2 v ((hmem v).1 hv)
  cases han : ansR σ (tmsVars [eqG a b] []) with
  | none => rw [han] at h; simp at h
  | some x =>
   rw [han] at h
   simp only [Prod.mk.injEq, and_true] at h
   have han' := han
   unfold ansR at han'
   split at han'
   case isFalse => cases han'
   rename_i hc
   obtain ⟨hall, hlen⟩ := hc
   cases han'
   generalize hV : tmsVars [eqG a b] [] = vars at *
   have hokR : ∀ v ∈ vars, OkV 26 (rs σ v) := fun v hv => G.okV hoV v (hvr v hv).1 (hvr v hv).2
   have hvalR : ∀ v ∈ vars, (rs σ v).valid = true := fun v hv => by
    rw [Tm.valid_iff (okV_26.2 (hokR v hv))]
    exact List.all_eq_true.1 hall _ (List.mem_map.2 ⟨v, hv, rfl⟩)
   have hinV : ∀ m ∈ tr, m ∈ vars := by
    have hin : ∀ t ∈ [a, b], InV vars t := fun t ht v hv => (hmem v).2 ((Tm.vl_mk (by decide)).2 ⟨t, ht, hv⟩)
    exact ((uni_inV g).1 Sub.none a b true σ tr vars IsGood.none hrun (fun n u e => by cases e) (hin a (by simp)) (hin b (by simp))).2
   have hbs : ((bindsOf σ).all fun x => x.2.valid) = true := List.all_eq_true.2 fun y hy => by
    unfold bindsOf at hy
    obtain ⟨i, hi, hiy⟩ := List.mem_filterMap.1 hy
    cases hs : σ (i : Int) with
    | none => rw [hs] at hiy; cases hiy
    | some u =>
     rw [hs] at hiy
     cases hiy
     show (u.mapv (rs σ)).valid = true
     rw [← G.bound hs]
     exact hvalR _ (hinV _ (hU.uni.out hs))
   refine .inr ⟨_, bindsOf σ, h.symm, ?_, fun gs y hgs hy => ?_⟩
   · unfold uniB
     rw [hR]
     exact if_pos ⟨ha, hb, rfl, hbs⟩
   obtain ⟨_, _, hy1, hy2⟩ := appB_some' hy
   rw [hU.subB] at hy1
   unfold ansGoals at hgs
   split at hgs
   case isFalse => cases hgs
   rename_i hc
   cases hgs
   obtain ⟨_, hval⟩ := hc
   rw [hV] at hval ⊢
   simp only [List.map_cons, List.map_nil, List.all_cons, List.all_nil, Bool.and_true] at hval ⊢
   refine ⟨_, rfl, hval, hy2, ?_⟩
   have hokT : ∀ t ∈ vars.map (rs σ), OkV 26 t := fun t ht => by obtain ⟨v, hv, rfl⟩ := List.mem_map.1 ht; exact hokR v hv
   have hLm := fun v => tmsVars_mem (v := v) (vars.map (rs σ)) [] fun t ht => (hokT t ht).2.1
   have hLn := tmsVars_nodup (vars.map (rs σ)) [] (fun t ht => Tm.cv_wf t (hokT t ht).2.1) List.nodup_nil
   unfold renumL
   generalize tmsVars (vars.map (rs σ)) [] = W at *
   have hz : (eqG a b).mapv (valOf vars ((vars.map (rs σ)).map fun t => t.mapv fun v => vr (idxI v W 0))) = ren (fun v => idxI v W 0) ((eqG a b).mapv (rs σ)) := by
    rw [mapv_ren]
    refine mapv_congr _ fun v hv => ?_
    obtain ⟨i, hi, hiv⟩ := List.getElem_of_mem ((hmem v).2 hv)
    have hi' : vars[i]? = some v := by rw [List.getElem?_eq_getElem hi, hiv]
    unfold valOf
    rw [idxI_at hnd hi' 0, List.map_map, show ((0 : Int) + (i : Int)).toNat = i by omega, List.getElem?_map, hi']
    rfl
   rw [hz, hy1]
   refine renum_inj (D := fun v => v ∈ W) (fun v w hv hw e => ?_) (Tm.cv_wf _ (Tm.valid_okV (hy1 ▸ hy2)).2.1) fun v hv => ?_
   · obtain ⟨i, hi, hiv⟩ := List.getElem_of_mem hv
     obtain ⟨j, hj, hjw⟩ := List.getElem_of_mem hw
     have hi' : W[i]? = some v := by rw [List.getElem?_eq_getElem hi, hiv]
     have hj' : W[j]? = some w := by rw [List.getElem?_eq_getElem hj, hjw]
     rw [idxI_at hLn hi' 0, idxI_at hLn hj' 0] at e
     have : i = j := by omega
     subst this
     rw [hi'] at hj'
     exact Option.some.inj hj'
   · obtain ⟨u, hu, hvu⟩ := (vl_mapv _).1 hv
     exact (hLm v).2 (.inr ⟨_, List.mem_map.2 ⟨u, (hmem u).2 hu, rfl⟩, hvu⟩)
def lsum (l : List IC) : Nat := (l.map fun c => c.list.length).sum
theorem lsum_app (l m : List IC) : lsum (l ++ m) = lsum l + lsum m := by simp [lsum]
theorem lsum_one (c : IC) : lsum [c] = c.list.length := by simp [lsum]
theorem lsum_take (l : List IC) (k : Nat) : lsum (l.take k) ≤ lsum l := by
 have := lsum_app (l.take k) (l.drop k)
 rw [List.take_append_drop] at this
 omega
structure IX (p : List Cl) (M : Nat) (i : IS) : Prop where
 tnd : i.tr.Nodup
 tin : ∀ n ∈ i.tr, (0 ≤ n ∧ n < (i.fresh : Int)) ∧ i.σ n ≠ none
 phi : i.fresh + 26 * lsum i.chs ≤ M
 ch : ∀ c ∈ i.chs, c.node < c.taken ∧ c.taken ≤ i.nn ∧ c.trail ≤ i.tr.length ∧ ∀ x ∈ c.list, x < p.length
 mono : i.chs.Pairwise (fun c d => c.taken ≤ d.taken ∧ c.trail ≤ d.trail)
theorem IX.up {p : List Cl} {M M' : Nat} {i : IS} (h : IX p M i) (hM : M ≤ M') : IX p M' i := ⟨h.tnd, h.tin, Nat.le_trans h.phi hM, h.ch, h.mono⟩
theorem IX.trl {p : List Cl} {M : Nat} {i : IS} (h : IX p M i) : i.tr.length ≤ i.fresh := nodup_VN h.tnd fun n hn => (h.tin n hn).1
theorem iTry_X {p : List Cl} (hp : ∀ c ∈ p, ClX c) {M : Nat} {goal : Tm} {at' : Nat} {rest : List IG} : ∀ (l : List Nat) (s : IS), (∀ x ∈ l, x < p.length) → at' < s.nn → s.fresh + 26 * lsum s.chs + 26 * l.length ≤ M → IX p M s → IsGood s.σ → AllS (OkX s.fresh) s.σ → OkX s.fresh goal →
 IX p M (iTry p goal at' rest l s).2
 | [], s, _, _, _, h, _, _, _ => by unfold iTry; exact h
 | j :: l, s, hl, ha, hM, h, hg, ho, hgo => by
  obtain ⟨x, hx⟩ : ∃ x, p[j]? = some x := ⟨_, List.getElem?_eq_getElem (hl j (by simp))⟩
  have hX := hp x (List.mem_of_getElem? hx)
  have hl' : ∀ x ∈ l, x < p.length := fun x h => hl x (by simp [h])
  simp only [List.length_cons] at hM
  unfold iTry
  simp only [hx]
  split
  · have hhd : OkX ((s.fresh + 26 : Nat) : Int) (shf s.fresh x.1) := (hX.shf s.fresh x.1 (by simp)).mono (by have := hX.fr.1; omega)
    obtain ⟨r, σ', add, U⟩ := uniG_of (N := s.fresh + 26) hg (fun n u e => (ho n u e).mono (by omega)) (hgo.mono (by omega)) hhd
    rw [U.eq]
    have S := U.sol
    refine ⟨?_, ?_, ?_, ?_, ?_⟩
    · simp only
      refine List.nodup_append.2 ⟨h.tnd, S.nodup, fun a ha b hb e => ?_⟩
      subst e
      exact (h.tin a ha).2 (S.new a hb).1
    · intro n hn
      simp only [List.mem_append] at hn ⊢
      rcases hn with hn | hn
      · have h1 := h.tin n hn
        have hna : n ∉ add := fun ha => h1.2 (S.new n ha).1
        exact ⟨⟨h1.1.1, by have := h1.1.2; omega⟩, by rw [S.keep n hna]; exact h1.2⟩
      · have := S.inN n hn
        exact ⟨⟨this.1, by omega⟩, (S.new n hn).2⟩
    · simp only
      split
      · omega
      · rw [lsum_app, lsum_one]; simp only; omega
    · intro c hc
      have key : ∀ c ∈ s.chs, c.node < c.taken ∧ c.taken ≤ s.nn ∧ c.trail ≤ (s.tr ++ add).length ∧ ∀ x ∈ c.list, x < p.length := fun c hc => by
       obtain ⟨h1, h2, h3, h4⟩ := h.ch c hc
       exact ⟨h1, h2, by rw [List.length_append]; omega, h4⟩
      simp only at hc ⊢
      split at hc
      · exact key c hc
      · rcases List.mem_append.1 hc with hc | hc
        · exact key c hc
        · simp only [List.mem_cons, List.not_mem_nil, or_false] at hc
          subst hc
          exact ⟨ha, Nat.le_refl _, by rw [List.length_append]; simp only; omega, hl'⟩
    · simp only
      split
      · exact h.mono
      · refine List.pairwise_append.2 ⟨h.mono, List.pairwise_singleton _ _, fun a ha b hb => ?_⟩
        simp only [List.mem_cons, List.not_mem_nil, or_false] at hb
        subst hb
        obtain ⟨h1, h2, h3, h4⟩ := h.ch a ha
        exact ⟨h2, h3⟩
  · refine iTry_X hp l { s with fresh := s.fresh + 26 } hl' ha (by simp only; omega) ⟨h.tnd, fun n hn => ?_, by simp only; omega, h.ch, h.mono⟩ hg (fun n u e => (ho n u e).mono (by simp only; omega)) (hgo.mono (by simp only; omega))
    have := h.tin n hn
    exact ⟨⟨this.1.1, by simp only; omega⟩, this.2⟩
theorem IX.pop {p : List Cl} {M : Nat} {gl : List IG} {τ : Sub} {tr : List Int} {ds : List IC} {d : IC} {F nn : Nat} (h : IX p M ⟨gl, τ, tr, ds ++ [d], F, nn⟩) :
 IX p M ⟨gl, τ.out (tr.drop d.trail), tr.take d.trail, ds, F, d.taken⟩ ∧ F + 26 * lsum ds + 26 * d.list.length ≤ M ∧ d.node < d.taken ∧ d.taken ≤ nn ∧ d.trail ≤ tr.length ∧ ∀ x ∈ d.list, x < p.length := by
 obtain ⟨h1, h2, h3, h4⟩ := h.ch d (by simp)
 have hphi := h.phi
 simp only [lsum_app, lsum_one] at hphi
 have hm := List.pairwise_append.1 h.mono
 have hnd := h.tnd
 simp only at hnd h2 h3
 have hsp : tr.take d.trail ++ tr.drop d.trail = tr := List.take_append_drop _ _
 rw [← hsp, List.nodup_append] at hnd
 refine ⟨⟨hnd.1, fun n hn => ?_, by simp only; omega, fun c hc => ?_, hm.1⟩, by omega, h1, h2, h3, h4⟩
 · have := h.tin n (List.mem_of_mem_take hn)
   refine ⟨this.1, ?_⟩
   simp only
   unfold Sub.out
   rw [if_neg (fun hd => hnd.2.2 n hn n hd rfl)]
   exact this.2
 · obtain ⟨g1, g2, g3, g4⟩ := h.ch c (by simp [hc])
   have := hm.2.2 c hc d (by simp)
   exact ⟨g1, this.1, by simp only [List.length_take]; simp only at g3; omega, g4⟩
theorem iBack_X {p : List Cl} (hp : ∀ c ∈ p, ClX c) {M : Nat} : ∀ (n : Nat) (cs : List RC) (i : IS), ChR i.fresh cs i.chs i.σ i.tr → IX p M i → ∀ i', iBack p n i = some i' → IX p M i'
 | 0, _, _, _, _, i', h => by simp [iBack] at h
 | n + 1, cs, i, C, h, i', e => by
  obtain ⟨gl, τ, tr, ds, F, nn⟩ := i
  simp only at C
  cases C with
  | nil => simp only [iBack, List.getLast?_nil] at e; cases e
  | @snoc cs ds c d _ _ C h1 h2 =>
   obtain ⟨hP, hM, hnt, htn, htr, hli⟩ := h.pop
   have e3 : (IS.pop ⟨gl, τ, tr, ds ++ [d], F, nn⟩ d) = ⟨gl, τ.out (tr.drop d.trail), tr.take d.trail, ds, F, d.taken⟩ := by simp only [IS.pop, List.dropLast_concat]
   simp only [iBack, List.getLast?_append, List.getLast?_singleton, Option.or_some, Option.some_or, e3] at e
   obtain ⟨ρ, S, e1, hok, hG, e2⟩ := h1
   have hX := iTry_X hp (rest := d.rest) d.list _ hli (at' := d.node) (by simp only; exact hnt) (by simp only; exact hM) hP S.g2 S.o2 (e1 ▸ S.renX hok)
   split at e
   · cases e
     exact hX
   · rename_i hf
     have key := try_sim hp (cs := cs) (nn := d.taken) (at' := d.node) (tr := tr.take d.trail) hok hG c.left F gl S C
     rw [← e1, ← e2] at key
     cases ht : rTry p cs c.goal c.rest c.σ c.N c.left with
     | some s =>
      rw [e2, ht] at key
      obtain ⟨i2, k1, _⟩ := key
      rw [← e2] at k1
      rw [k1] at hf
      simp at hf
     | none =>
      rw [e2, ht] at key
      obtain ⟨F', hF, k1⟩ := key
      rw [← e2] at k1
      rw [k1] at e hX
      exact iBack_X hp n cs _ (C.mono hF) hX i' e
end Go.AW
