import Derived.Test.YtepkgoabhlnkbaaGreatDoorSesn
import Derived.Test.YtepkgoabhlnkbaaGreatDoorSesl
import Derived.Test.YtepkgoabhlnkbaaGreatDoorSesj
import Derived.Test.YtepkgoabhlnkbaaGreatDoorSesm
set_option linter.unusedSimpArgs false
set_option linter.unusedVariables false
set_option maxRecDepth 100000
namespace Go.AW
open Go.Proofs.Tryz
theorem rcAv_mk (k n : Int) (s : ByteArray) (ts : List Tm) (rest : List RG) (left : List Nat) (σ : Sub) (N : Nat) : rcAv ⟨.mk k n s ts, rest, left, σ, N⟩ = .agg [.int .i64 k, .int .i64 n, .str s, .slice (ts.map Tm.av), .slice (rest.map rgAv), .slice (left.map nv), .slice (arrN N σ)] := rfl
structure RcOk (p : List Cl) (c : RC) : Prop where
 good : IsGood c.σ
 ok : AllS (OkX c.N) c.σ
 dom : ∀ n, ¬(0 ≤ n ∧ n < (c.N : Int)) → c.σ n = none
 goal : OkX c.N c.goal
 rest : ∀ g ∈ c.rest, OkX c.N g.t ∧ g.t.k = 3
 left : ∀ i ∈ c.left, i < p.length
 len : c.rest.length ≤ 524288
 llen : c.left.length ≤ 1048576
structure RsOk (p : List Cl) (B : Nat) (s : RS) : Prop where
 good : IsGood s.σ
 ok : AllS (OkX s.N) s.σ
 dom : ∀ n, ¬(0 ≤ n ∧ n < (s.N : Int)) → s.σ n = none
 goals : ∀ g ∈ s.goals, OkX s.N g.t ∧ g.t.k = 3
 pos : 0 < s.N
 hN : s.N ≤ B
 gl : s.goals.length ≤ B
 chl : s.chs.length ≤ B
 chs : ∀ c ∈ s.chs, RcOk p c ∧ c.N + 26 ≤ B ∧ c.rest.length + 26 ≤ B ∧ 0 < c.N
theorem AllS.upN {N M : Nat} {σ : Sub} (h : AllS (OkX N) σ) (hm : N ≤ M) : AllS (OkX M) σ := h.imp fun t ht => ht.mono (by omega)
theorem arrN_more {N k : Nat} {σ : Sub} (hd : ∀ n, ¬(0 ≤ n ∧ n < (N : Int)) → σ n = none) : arrN N σ ++ List.replicate k zt = arrN (N + k) σ := by
 apply List.ext_getElem?
 intro i
 have hl := arrN_len N σ
 by_cases hi : i < N
 · rw [List.getElem?_append_left (by omega), arrN_get N σ hi, arrN_get (N + k) σ (by omega)]
 · rw [List.getElem?_append_right (by omega), hl]
   by_cases h2 : i < N + k
   · rw [arrN_get (N + k) σ h2, hd (i : Int) (fun h => hi (by omega)), List.getElem?_replicate, if_pos (by omega)]
     rfl
   · rw [List.getElem?_eq_none (by simp; omega), List.getElem?_eq_none (by rw [arrN_len]; omega)]
theorem app_zeros {N k b : Nat} {σ : Sub} (hd : ∀ n, ¬(0 ≤ n ∧ n < (N : Int)) → σ n = none) (hN : N + k ≤ 1048576) {st : zy7} {K : AV → zy7 → Prop} (hb : st b = none)
 (hK : ∀ b', st b' = none → K (.mslice b' 0 (N + k) 4) (st.upd b' (.cells ((arrN (N + k) σ).flatMap AV.cells)))) :
 aAppendZ prog 29 3 (st.upd b (.cells ((arrN N σ).flatMap AV.cells))) (.mslice b 0 N 4) (.int .i64 (k : Int)) K := by
 have hu : prog.underlying 3 = some (.int .i64) := by kernel_rfl
 have hl : ((arrN N σ).flatMap AV.cells).length = N * 4 := by rw [flat_length (fun e he => (arrN_fits N σ e he).1), arrN_len]
 have hnew : ((arrN N σ).flatMap AV.cells).take (N * 4) ++ madeAV [AV.int .i64 0, .int .i64 0, .str ⟨#[]⟩, .fslice []] k = (arrN (N + k) σ).flatMap AV.cells := by
  rw [← hl, List.take_length, madeAV_eq _ (by simp), ← arrN_more hd, List.flatMap_append, List.flatMap_replicate]
  rfl
 unfold aAppendZ
 simp only [eI_29, eB_29, eZ_29, hu, zy7.upd_same, Int.toNat_natCast]
 refine ⟨rfl, by omega, rfl, by omega, trivial, by omega, by omega, by omega, ?_, fun b' hb' => ?_⟩
 · rw [hnew, zy7.upd_upd]
   exact hK b hb
 · rw [hnew, zy7.erase_upd st b _ hb]
   refine hK b' ?_
   by_cases h : b' = b
   · subst h; exact hb
   · rwa [zy7.upd_ne _ _ h] at hb'
theorem try_end {st s2 V : zy7} {o' o6 : AO} {b6 b11 b13 b14 b : Nat} {L A : List AV} (hD : Drops s2 st) (hA : s2 b11 = some (.cells (A.flatMap AV.cells))) (h11 : st b11 = none) (h6 : st b6 = none) (h62 : s2 b6 ≠ none) (h611 : b6 ≠ b11) (h13 : s2 b13 = none) (h14 : s2 b14 = none)
 (hV : ∀ q, q ≠ b13 → q ≠ b14 → V q = s2 q) (hV13 : V b13 ≠ none) (hV14 : V b14 ≠ none) (hb : L ≠ [] → V b = none) (hne : A ≠ []) :
 Drops (((accS V b L).upd b13 o').upd b6 o6) (accS (accS st b11 A) b L) ∧ (L ≠ [] → (accS st b11 A) b = none) := by
 have hb13 : b13 ≠ b11 := by rintro rfl; rw [h13] at hA; cases hA
 have hb14 : b14 ≠ b11 := by rintro rfl; rw [h14] at hA; cases hA
 have h136 : b13 ≠ b6 := by rintro rfl; exact h62 h13
 have n13 : st b13 = none := (hD b13).1 h13
 have n14 : st b14 = none := (hD b14).1 h14
 rw [accS_cons hne]
 have hbb : L ≠ [] → b ≠ b13 ∧ b ≠ b11 ∧ b ≠ b6 ∧ b ≠ b14 ∧ s2 b = none := fun h => by
  have h0 := hb h
  have e13 : b ≠ b13 := by rintro rfl; exact hV13 h0
  have e14 : b ≠ b14 := by rintro rfl; exact hV14 h0
  rw [hV b e13 e14] at h0
  exact ⟨e13, (by rintro rfl; rw [h0] at hA; cases hA), (by rintro rfl; exact h62 h0), e14, h0⟩
 refine ⟨fun q => ?_, fun h => ?_⟩
 · by_cases q6 : q = b6
   · subst q6
     have : accS (st.upd b11 (.cells (A.flatMap AV.cells))) b L q = none := by
      by_cases hL : L = []
      · subst hL; simp only [accS]; rw [zy7.upd_ne _ _ h611, h6]
      · obtain ⟨_, _, e6, _⟩ := hbb hL
        rw [accS_cons hL, zy7.upd_ne _ _ (Ne.symm e6), zy7.upd_ne _ _ h611, h6]
     rw [this]; simp
   rw [zy7.upd_ne _ _ q6]
   by_cases q13 : q = b13
   · subst q13
     have : accS (st.upd b11 (.cells (A.flatMap AV.cells))) b L q = none := by
      by_cases hL : L = []
      · subst hL; simp only [accS]; rw [zy7.upd_ne _ _ hb13, n13]
      · obtain ⟨e13, _⟩ := hbb hL
        rw [accS_cons hL, zy7.upd_ne _ _ (Ne.symm e13), zy7.upd_ne _ _ hb13, n13]
     rw [this]; simp
   rw [zy7.upd_ne _ _ q13]
   have rest : q ≠ b ∨ L = [] → (V q = none → st.upd b11 (.cells (A.flatMap AV.cells)) q = none) ∧ ∀ o, st.upd b11 (.cells (A.flatMap AV.cells)) q = some o → V q = some o := fun _ => by
    by_cases q14 : q = b14
    · subst q14
      rw [zy7.upd_ne _ _ hb14, n14]
      simp
    rw [hV q q13 q14]
    by_cases q11 : q = b11
    · subst q11; rw [zy7.upd_same, hA]; simp
    rw [zy7.upd_ne _ _ q11]
    exact hD q
   by_cases hL : L = []
   · subst hL
     exact rest (.inr rfl)
   · rw [accS_cons hL, accS_cons hL]
     by_cases qb : q = b
     · subst qb; rw [zy7.upd_same, zy7.upd_same]; simp
     rw [zy7.upd_ne _ _ qb, zy7.upd_ne _ _ qb]
     exact rest (.inl qb)
 · obtain ⟨e13, e11, e6, e14, h0⟩ := hbb h
   rw [zy7.upd_ne _ _ e11]
   exact (hD b).1 h0
theorem accS_other {st : zy7} {b q : Nat} {l : List AV} {o : AO} (hb : l ≠ [] → st b = none) (h : st q = some o) : accS st b l q = some o := by
 cases l with
 | nil => exact h
 | cons x l =>
  rw [accS_cons (by simp), zy7.upd_ne _ _ (by rintro rfl; rw [hb (by simp)] at h; cases h)]
  exact h
theorem fin_msN {b b' o n w : Nat} {l : List AV} (h : l ≠ [] → b' ≠ b) : (AV.mslice b' o n w).fin b l = .mslice b' o n w := by
 unfold AV.fin
 cases l with
 | nil => rfl
 | cons x l =>
  simp only [List.isEmpty_cons, Bool.false_eq_true, if_false]
  cases o with
  | zero => simp only [AV.fz]; rw [if_neg (fun e => h (by simp) e.1)]; rfl
  | succ o => rfl
theorem fin_arrN {b N : Nat} {σ : Sub} (h0 : 0 < N) : (AV.mslice b 0 N 4).fin b (arrN N σ) = .slice (arrN N σ) := by
 have hl := arrN_len N σ
 have h : arrN N σ ≠ [] := by intro e; rw [e] at hl; simp at hl; omega
 have : accV 4 b (arrN N σ) = .mslice b 0 N 4 := by rw [accV_cons h, hl]
 rw [← this, accV_fin]
theorem rc_junk (l : List RC) : ∀ e ∈ l.map rcAv, e.isJunk = false := by intro e he; simp only [List.mem_map] at he; obtain ⟨t, _, rfl⟩ := he; exact rcAv_junk t
theorem rc_widths (l : List RC) : ∀ e ∈ l.map rcAv, e.width = 7 := by intro e he; simp only [List.mem_map] at he; obtain ⟨t, _, rfl⟩ := he; exact rcAv_width t
theorem slice_nv {φ : AF} {d i : Nat} {l : List Nat} (hi : i + 1 < l.length) (h : φ d = .int .i64 ((i : Int) + 1)) : aSlice prog φ 66 (.slice (l.map nv)) (some (.tmp d)) none none = some (.slice ((l.drop (i + 1)).map nv)) := by
 have he : φ.eval (.tmp d) = .int .i64 ((i : Int) + 1) := h
 have hb : aBound φ (some (.tmp d)) 0 l.length = some (i + 1) := by
  simp only [aBound, he]
  rw [if_pos (by omega)]
  congr 1
 have hwo : widthOk (l.map nv) (i + 1) 1 = true := by
  unfold widthOk
  rw [List.getElem?_map, List.getElem?_eq_getElem hi]
  rfl
 unfold aSlice
 rw [if_neg (by simp [isF0])]
 simp only [aSlice0, eI_66]
 rw [if_neg (by simp)]
 simp only [aBound] at hb ⊢
 have ht : List.take l.length (l.map nv) = l.map nv := List.take_of_length_le (by simp)
 simp only [List.length_map, hb, hwo, or_true, if_true, ht]
 simp [List.map_drop]
abbrev tf_R4_66 := zi tI_3 (zi zI_3 (zi underlying3 (zi tI_4 (zi zI_4 (zi underlying4 (zi tI_28 (zi zI_28 (zi eI_28 (zi eB_28 (zi eZ_28 (zi underlying28 (zi tI_29 (zi zI_29 (zi eI_29 (zi eB_29 (zi eZ_29 (zi underlying29 (zi tI_56 (zi zI_56 (zi fI_56_0 (zi fI_56_1 (zi fI_56_2 (zi fI_56_3 (zi bI_56 (zi tI_58 (zi zI_58 (zi fI_58_0 (zi fI_58_1 (zi bI_58 (zi tI_66 (zi zI_66 (zi eI_66 (zi eB_66 (zi eZ_66 (zi underlying66 (zi tI_68 (zi zI_68 (zi eI_68 (zi eB_68 (zi eZ_68 (zi underlying68 (zi tI_69 (zi zI_69 (zi eI_69 (zi eB_69 (zi eZ_69 (zi underlying69 (zi tI_71 (zi zI_71 (zi fI_71_0 (zi fI_71_1 (zi fI_71_2 (zi bI_71 (zi tI_102 (zi zI_102 (zi fI_102_0 (zi fI_102_1 (zi fI_102_2 (zi fI_102_3 bI_102)))))))))))))))))))))))))))))))))))))))))))))))))))))))))))
theorem c_l6Try (p : List Cl) (hp : ∀ c ∈ p, ClX c ∧ c.2.length ≤ 6) (gs0 : List RG) (σ0 : List AV) (cs : List RC) (c : RC) (hc : RcOk p c) (h0 : 0 < c.N) (hN : c.N ≤ 524288) (hcl : cs.length ≤ 524288) (st : zy7) :
 zq7 prog 66 [.slice (p.map clAv), .agg [.slice (gs0.map rgAv), .slice σ0, .slice (cs.map rcAv)], rcAv c] st (fun r st' => st' = st ∧ r = match rTry p cs c.goal c.rest c.σ c.N c.left with
  | some s => .tup [rsAv s, .bool true]
  | none => .tup [.agg [.slice (gs0.map rgAv), .slice σ0, .slice (cs.map rcAv)], .bool false]) := by
 obtain ⟨goal, rest, left, σ, N⟩ := c
 obtain ⟨hg, ho, hd, hgo, hr, hle, hrl, hll⟩ := hc
 simp only at hg ho hd hgo hr hle hrl hll h0 hN
 obtain ⟨gk, gn, gs', gts⟩ := goal
 rw [rcAv_mk]
 refine zq7.fin (zq7.fin (zq7.dropS ?_))
 refine wF [1000000, 13] 3 func66 ntmps66 rfl rfl ?_
 intro _
 simp -implicitDefEqProofs only [zy4, List.length_map, evF, ↓evZ, implies_true, seval, tf_R4_66]
 intro b6 h6
 generalize hW : st.upd b6 (.cells [.fslice [], .fslice [], .fslice []]) = W
 have hW6 : W b6 = some (.cells [.fslice [], .fslice [], .fslice []]) := by rw [← hW]; exact zy7.upd_same _ _ _
 have hDW : Drops W st := by rw [← hW]; exact (Drops.refl _).upd h6
 refine zy5 (σ := Unit) [1000000] [0, 4, 5, 6] left (fun i _ => rTry p cs (.mk gk gn gs' gts) rest σ N (left.drop i) = rTry p cs (.mk gk gn gs' gts) rest σ N left) (fun i _ => [(7, .bool false), (8, .int .i64 i)]) (fun _ _ => W) (by decide +kernel) ⟨(), rfl, zx7.mk (by simp -implicitDefEqProofs only [zy4, List.length_map, evF, ↓evZ, implies_true, seval, tf_R4_66])⟩ (fun i x _ hx hlt hlt' hdr hinv => ?_) (fun _ hge hinv => ?_)
 case refine_2 =>
  simp -implicitDefEqProofs only [hge, zy4, hW6, List.length_map, evF, ↓evZ, implies_true, seval, tf_R4_66]
  refine ⟨st, ?_, 0, [], st, rfl, by simp, by simp, ⟨0, by simp⟩, 0, [], st, rfl, by simp, by simp, ⟨0, by simp⟩, rfl, ?_⟩
  · intro z
    have := hDW z
    by_cases hz : z = b6
    · subst hz; simp [zy7.upd, h6]
    · rw [zy7.upd_ne _ _ hz]; exact this
  · rw [← hinv, List.drop_length]
    simp only [fin_agg, fin_tup, fin_int, fin_bool, fin_str, fin_slice, fin_fslice, fin_pptr, fin_ptr, fin_func, fin_map, fin_undef, fin_accV, tm_fin, List.map_cons, List.map_nil, rTry]
 have hw := wrap64 (n := (i : Int) + 1) (by omega) (by omega)
 have hxl := hle x (List.mem_of_getElem? hx)
 obtain ⟨cl, hcx⟩ : ∃ cl, p[x]? = some cl := ⟨_, List.getElem?_eq_getElem hxl⟩
 obtain ⟨hclx, hcl6⟩ := hp cl (List.mem_of_getElem? hcx)
 rw [hdr, rTry.eq_def] at hinv
 simp only [hcx] at hinv
 have hat : aIndexAddr prog 66 (.slice (left.map nv)) (.int .i64 (i : Int)) = some (.pptr (.int .i64 (x : Int))) := ev_at (av := nv) eI_66 hx rfl
 have hatc := ev_at (av := clAv) (P := prog) eI_28 hcx (clAv_width cl)
 have hcf := c_l6Fresh cl hclx hcl6
 obtain ⟨⟨k, n, s', ts⟩, bd⟩ := cl
 rw [clAv_mk] at hatc hcf
 simp only at hinv
 simp -implicitDefEqProofs only [hlt', zy4, hW6, List.length_map, arrN_len, hat, hatc, hw, evF, ↓evZ, implies_true, seval, tf_R4_66]
 refine wX [(0, 1), (1, 1), (2, 1), (4, 1), (3, 0), (5, 0), (6, 0), (7, 1)] [0, 1, 2, 4, 7] none0' mixed rfl ext_none ?_
 simp -implicitDefEqProofs only [zy4, hW6, List.length_map, arrN_len, hat, hatc, hw, evF, ↓evZ, implies_true, seval, tf_R4_66]
 have hfr := hclx.fr.1
 have hHd := hclx.shf N (.mk k n s' ts) (by simp)
 have hBd := fun t ht => (hclx.okAll t (List.mem_cons_of_mem _ ht))
 refine app_arrN h0 (by omega) σ fun b hb hA0 => ?_
 simp -implicitDefEqProofs only [zy4, hW6, List.length_map, arrN_len, hat, hatc, hw, evF, ↓evZ, implies_true, seval, tf_R4_66]
 refine ⟨ext_none, ?_⟩
 refine (hcf _).to ?_
 simp -implicitDefEqProofs only [zy4, hW6, List.length_map, arrN_len, hat, hatc, hw, evF, ↓evZ, implies_true, seval, tf_R4_66]
 refine ⟨ext_none, ?_⟩
 refine app_zeros hd (by omega) hb fun b11 h11 => ?_
 simp -implicitDefEqProofs only [zy4, hW6, List.length_map, arrN_len, hat, hatc, hw, evF, ↓evZ, implies_true, seval, tf_R4_66]
 refine ⟨ext_none, ?_⟩
 have hA := (show ArrN (N + frN (.mk k n s' ts, bd)) (W.upd b11 (.cells ((arrN (N + frN (.mk k n s' ts, bd)) σ).flatMap AV.cells))) b11 σ from zy7.upd_same _ _ _)
 have hDT : Drops (W.upd b11 (.cells ((arrN (N + frN (.mk k n s' ts, bd)) σ).flatMap AV.cells))) W := (Drops.refl _).upd h11
 have hh := hclx.head
 generalize frN (.mk k n s' ts, bd) = fr at *
 generalize W.upd b11 (.cells ((arrN (N + fr) σ).flatMap AV.cells)) = T at *
 have hsh : Tm.sh (N : Int) (.mk k n s' ts) = shf N (.mk k n s' ts) := sh_shf N (by omega) _ hh.1
 have hcs := c_l3Shift (N : Int) (.mk k n s' ts)
 rw [hsh] at hcs
 have hun := cN_l3UnifyG (N := N + fr) (by omega) hg (ho.upN (by omega)) (.mk gk gn gs' gts) (shf N (.mk k n s' ts)) (hgo.mono (by omega)) hHd b11
 generalize shf N (.mk k n s' ts) = y at *
 obtain ⟨yk, yn, ys, yt⟩ := y
 refine wX [(0, 1), (1, 1), (2, 1), (3, 1), (4, 1), (6, 1), (5, 0), (7, 0), (8, 1)] [0, 1, 2, 3, 4, 6, 8] none0' mixed rfl ext_none ?_
 simp -implicitDefEqProofs only [zy4, hW6, List.length_map, arrN_len, hat, hatc, hw, evF, ↓evZ, implies_true, seval, tf_R4_66]
 have hsm := hh.1.small
 simp only [Tm.av_mk] at hun hcs ⊢
 refine (hcs _ hsm).to ?_
 simp -implicitDefEqProofs only [zy4, hW6, List.length_map, arrN_len, hat, hatc, hw, evF, ↓evZ, implies_true, seval, tf_R4_66]
 refine ⟨ext_none, ?_⟩
 refine (hun _ hA).mono ?_
 rintro _ s2 ⟨rfl, hA2, hk2⟩
 simp -implicitDefEqProofs only [zy4, hW6, List.length_map, arrN_len, hat, hatc, hw, evF, ↓evZ, implies_true, seval, tf_R4_66]
 refine ⟨ext_none, ?_⟩
 generalize uniG σ (.mk gk gn gs' gts) (.mk yk yn ys yt) = u at *
 obtain ⟨r, σ', tr⟩ := u
 simp only at hinv hA2 ⊢
 have hW11 : W b11 = none := h11
 have hDs : Drops s2 W := by
  intro q
  have key : ∀ o, W q = some o → s2 q = some o := fun o h => hk2 q o ((hDT q).2 o h) (by rintro rfl; rw [hW11] at h; cases h)
  refine ⟨fun h => ?_, key⟩
  cases hq : W q with
  | none => rfl
  | some o => rw [key o hq] at h; cases h
 refine zq4 (fun h => ?_) (fun h => ?_)
 · have hr : r = false := by simpa using h
   rw [if_neg (by rw [hr]; simp)] at hinv
   simp -implicitDefEqProofs only [hw, zy4, hW6, List.length_map, arrN_len, hat, hatc, hw, evF, ↓evZ, implies_true, seval, tf_R4_66]
   exact ⟨(), hinv, zx7.drop hDs (by simp -implicitDefEqProofs only [zy4, hW6, List.length_map, arrN_len, hat, hatc, hw, evF, ↓evZ, implies_true, seval, tf_R4_66])⟩
 have hr' : r = true := by simpa using h
 rw [if_pos hr'] at hinv
 have hg9 := c_l6Goals bd N cs.length rest hBd hcl6 (by omega) (by omega)
 generalize hgs : bd.map (fun t => (⟨shf N t, cs.length⟩ : RG)) ++ rest = gs2 at *
 simp -implicitDefEqProofs only [zy4, hW6, List.length_map, arrN_len, hat, hatc, hw, evF, ↓evZ, implies_true, seval, tf_R4_66]
 refine wP [(0, 1), (1, 1), (3, 1), (5, 1), (6, 1), (7, 1), (2, 2), (4, 2), (8, 2), (9, 1), (10, 1), (11, 0), (12, 0)] [0, 1, 3, 5, 6, 7, 2, 4, 8, 9, 10] mixed ?_
 simp -implicitDefEqProofs only [zy4, hW6, List.length_map, arrN_len, hat, hatc, hw, evF, ↓evZ, implies_true, seval, tf_R4_66]
 refine callF_mk hg9 ?_
 simp -implicitDefEqProofs only [zy4, hW6, List.length_map, arrN_len, hat, hatc, hw, evF, ↓evZ, implies_true, seval, tf_R4_66]
 intro b13 h13
 have h1311 : b13 ≠ b11 := by rintro rfl; rw [ArrN, h13] at hA2; cases hA2
 have h62 : s2 b6 ≠ none := by rw [(hDs b6).2 _ hW6]; simp
 have h136 : b6 ≠ b13 := by rintro rfl; exact h62 h13
 have h116 : b6 ≠ b11 := by rintro rfl; rw [hW6] at hW11; cases hW11
 have hst11 : st b11 = none := (hDW b11).1 hW11
 have hW62 := (hDs b6).2 _ hW6
 have hNf : 0 < N + fr := by omega
 have harr : arrN (N + fr) σ' ≠ [] := by intro e; have := arrN_len (N + fr) σ'; rw [e] at this; simp at this; omega
 refine zq4 (fun h => ?_) (fun h => ?_)
 · have h' : i + 1 < left.length := by simp at h; omega
   have hsl := fun (φ : AF) (d : Nat) (h : φ d = .int .i64 ((i : Int) + 1)) => slice_nv h' h
   simp -implicitDefEqProofs only [zy4, hsl, hw, evF, ↓evZ, implies_true, seval, tf_R4_66]
   refine wP [(0, 1), (2, 1), (4, 1), (6, 1), (7, 1), (9, 1), (1, 2), (3, 2), (5, 2), (8, 1), (10, 2), (11, 1), (12, 0), (13, 0)] [0, 2, 4, 6, 7, 9, 1, 3, 5, 8, 10, 11] mixed ?_
   simp -implicitDefEqProofs only [zy4, hsl, hw, evF, ↓evZ, implies_true, seval, tf_R4_66]
   intro b14 h14
   have hne14 : b14 ≠ b13 := by rintro rfl; rw [zy7.upd_same] at h14; cases h14
   have h142 : s2 b14 = none := by rw [zy7.upd_ne _ _ hne14] at h14; exact h14
   have h614 : b6 ≠ b14 := by rintro rfl; exact h62 h142
   generalize hV : (s2.upd b13 (AO.cells [AV.slice (gs2.map rgAv), AV.mslice b11 0 (N + fr) 4, AV.slice (cs.map rcAv)])).upd b14 (.cells [.int .i64 gk, .int .i64 gn, .str gs', .slice (gts.map Tm.av), .slice (rest.map rgAv), .slice ((left.drop (i + 1)).map nv), .slice (arrN N σ)]) = V
   have hV14 : V b14 = some (.cells [.int .i64 gk, .int .i64 gn, .str gs', .slice (gts.map Tm.av), .slice (rest.map rgAv), .slice ((left.drop (i + 1)).map nv), .slice (arrN N σ)]) := by rw [← hV]; exact zy7.upd_same _ _ _
   have hV13 : V b13 = some (AO.cells [AV.slice (gs2.map rgAv), AV.mslice b11 0 (N + fr) 4, AV.slice (cs.map rcAv)]) := by rw [← hV, zy7.upd_ne _ _ (Ne.symm hne14)]; exact zy7.upd_same _ _ _
   have hV6 : V b6 = some (.cells [.fslice [], .fslice [], .fslice []]) := by rw [← hV, zy7.upd_ne _ _ h614, zy7.upd_ne _ _ h136]; exact hW62
   have hVq : ∀ q, q ≠ b13 → q ≠ b14 → V q = s2 q := fun q e1 e2 => by rw [← hV, zy7.upd_ne _ _ e2, zy7.upd_ne _ _ e1]
   refine wX [(0, 1), (1, 1), (2, 1), (4, 1), (5, 1), (3, 0), (6, 0), (7, 1), (8, 2)] [0, 1, 2, 4, 5, 7] (one b14 (.cells [.int .i64 gk, .int .i64 gn, .str gs', .slice (gts.map Tm.av), .slice (rest.map rgAv), .slice ((left.drop (i + 1)).map nv), .slice (arrN N σ)])) mixed rfl (ext_one hV14) ?_
   simp -implicitDefEqProofs only [one_same, zy4, hsl, hw, evF, ↓evZ, implies_true, seval, tf_R4_66]
   have hlc : (cs.map rcAv).length = cs.length := List.length_map _
   refine acc_append (P := prog) (b := 0) (l := []) (xs := cs.map rcAv) eI_69 eB_69 eZ_69 rfl rfl (by intro e he; simp only [List.mem_map] at he; obtain ⟨t, _, rfl⟩ := he; exact ⟨rcAv_width t, rcAv_store t⟩) (by simp) (by simp) (by simp only [List.length_nil, hlc]; omega) (by simp only [List.length_nil, hlc]; omega) (fun b15 h15 => ?_)
   rw [List.nil_append] at h15 ⊢
   simp -implicitDefEqProofs only [one_same, zy4, hsl, hw, evF, ↓evZ, implies_true, seval, tf_R4_66]
   refine ⟨ext_one (accS_other h15 hV14), ?_⟩
   refine acc_append (P := prog) (b := b15) (l := cs.map rcAv) (xs := [rcAv ⟨.mk gk gn gs' gts, rest, left.drop (i + 1), σ, N⟩]) eI_69 eB_69 eZ_69 rfl rfl (by intro e he; simp only [List.mem_cons, List.not_mem_nil, or_false] at he; subst he; exact ⟨rfl, rfl⟩) (by intro e he; simp only [List.mem_map] at he; obtain ⟨t, _, rfl⟩ := he; exact rcAv_width t) h15 (by simp only [List.length_cons, List.length_nil, hlc]; omega) (by simp only [List.length_cons, List.length_nil, hlc]; omega) (fun b16 h16 => ?_)
   rw [show (cs.map rcAv) ++ [rcAv ⟨.mk gk gn gs' gts, rest, left.drop (i + 1), σ, N⟩] = (cs ++ [(⟨.mk gk gn gs' gts, rest, left.drop (i + 1), σ, N⟩ : RC)]).map rcAv by simp] at h16 ⊢
   have g13 := accS_other h16 hV13
   have g14 := accS_other h16 hV14
   have g6 := accS_other h16 hV6
   have hdn : left.drop (i + 1) ≠ [] := by intro e; have := congrArg List.length e; simp at this; omega
   rw [if_neg hdn] at hinv
   generalize hLL : cs ++ [(⟨.mk gk gn gs' gts, rest, left.drop (i + 1), σ, N⟩ : RC)] = LL at *
   have E := try_end (o' := .cells [AV.slice (gs2.map rgAv), AV.mslice b11 0 (N + fr) 4, accV 7 b16 (LL.map rcAv)]) (o6 := .cells [AV.slice (gs2.map rgAv), AV.mslice b11 0 (N + fr) 4, accV 7 b16 (LL.map rcAv)]) (hDs.trans hDW) hA2 hst11 h6 h62 h116 h13 h142 hVq (by rw [hV13]; simp) (by rw [hV14]; simp) h16 harr
   simp -implicitDefEqProofs only [zy4, h136, g13, g14, g6, one_same, accV_store, accV_cells, evF, ↓evZ, implies_true, seval, tf_R4_66]
   have hms : LL.map rcAv ≠ [] → b11 ≠ b16 := by rintro h rfl; have := h16 h; rw [hVq b11 (Ne.symm h1311) (by rintro rfl; rw [ArrN, h142] at hA2; cases hA2), hA2] at this; cases this
   refine ⟨ext_one g14, _, E.1, b16, LL.map rcAv, _, rfl, fun h => E.2 (by simpa using h), rc_junk LL, ⟨7, rc_widths LL⟩, b11, arrN (N + fr) σ', st, rfl, fun _ => hst11, arrN_junk _ _, ⟨4, arrN_widths _ _⟩, rfl, ?_⟩
   rw [← hinv]
   simp only [fin_agg, fin_tup, fin_int, fin_bool, fin_str, fin_slice, fin_fslice, fin_pptr, fin_ptr, fin_func, fin_map, fin_undef, fin_accV, tm_fin, List.map_cons, List.map_nil, fin_msN hms, fin_arrN hNf]
   rfl
 · have h' : left.drop (i + 1) = [] := List.drop_eq_nil_of_le (by simp at h; omega)
   have E := try_end (o6 := .cells [AV.slice (gs2.map rgAv), AV.mslice b11 0 (N + fr) 4, AV.slice (cs.map rcAv)]) (o' := .cells [AV.slice (gs2.map rgAv), AV.mslice b11 0 (N + fr) 4, AV.slice (cs.map rcAv)]) (b := 0) (L := []) (hDs.trans hDW) hA2 hst11 h6 h62 h116 h13 h13 (fun q h _ => zy7.upd_ne s2 (.cells [AV.slice (gs2.map rgAv), AV.mslice b11 0 (N + fr) 4, AV.slice (cs.map rcAv)]) h) (by rw [zy7.upd_same]; simp) (by rw [zy7.upd_same]; simp) (by simp) harr
   simp -implicitDefEqProofs only [zy4, h136, h1311, hW62, zy7.upd_same, evF, ↓evZ, implies_true, seval, tf_R4_66]
   rw [if_pos h'] at hinv
   have E1 := E.1
   simp only [accS, zy7.upd_upd] at E1
   refine ⟨_, E1, 0, [], _, rfl, by simp, by simp, ⟨0, by simp⟩, b11, arrN (N + fr) σ', st, rfl, fun _ => hst11, arrN_junk _ _, ⟨4, arrN_widths _ _⟩, rfl, ?_⟩
   rw [← hinv]
   simp only [fin_agg, fin_tup, fin_int, fin_bool, fin_str, fin_slice, fin_fslice, fin_pptr, fin_ptr, fin_func, fin_map, fin_undef, fin_accV, tm_fin, List.map_cons, List.map_nil, fin_msN (l := []) (fun h => absurd rfl h), fin_arrN hNf]
   rfl
def glAv : List IG → AV
 | [] => .nilptr
 | ⟨.mk k n s ts, cut, up⟩ :: l => .pptr (.agg [.int .i64 k, .int .i64 n, .str s, .slice (ts.map Tm.av), .int .i64 (cut : Int), .int .i64 up, glAv l])
theorem glAv_cons (k n : Int) (s : ByteArray) (ts : List Tm) (cut : Nat) (up : Int) (l : List IG) : glAv (⟨.mk k n s ts, cut, up⟩ :: l) = .pptr (.agg [.int .i64 k, .int .i64 n, .str s, .slice (ts.map Tm.av), .int .i64 (cut : Int), .int .i64 up, glAv l]) := by rw [glAv]
theorem glAv_facts (l : List IG) : (glAv l).isAgg = false ∧ (glAv l).width = 1 ∧ (glAv l).isJunk = false ∧ (glAv l).cells = [glAv l] ∧ (glAv l).storable = true ∧ (glAv l).soft = glAv l := by
 cases l with
 | nil => rw [glAv]; exact ⟨rfl, rfl, rfl, rfl, rfl, rfl⟩
 | cons g l => obtain ⟨⟨k, n, s, ts⟩, cut, up⟩ := g; rw [glAv_cons]; exact ⟨rfl, rfl, rfl, rfl, rfl, rfl⟩
abbrev tf_T1_99 := zi tI_3 (zi zI_3 (zi underlying3 (zi tI_29 (zi zI_29 (zi eI_29 (zi eB_29 (zi eZ_29 (zi underlying29 (zi tI_56 (zi zI_56 (zi fI_56_0 (zi fI_56_1 (zi fI_56_2 (zi fI_56_3 (zi bI_56 (zi tI_125 (zi zI_125 (zi tI_146 (zi zI_146 (zi fI_146_0 (zi fI_146_1 (zi fI_146_2 (zi fI_146_3 bI_146)))))))))))))))))))))))
theorem c_put (bd : List Tm) (cut : Nat) (up : Int) (rest : List IG) (hl : bd.length ≤ 1048576) (st : zy7) :
 zq7 prog 99 [.slice (bd.map Tm.av), .int .i64 (cut : Int), .int .i64 up, glAv rest] st (fun r st' => r = glAv (bd.map (fun t => (⟨t, cut, up⟩ : IG)) ++ rest) ∧ st' = st) := by
 obtain ⟨r1, r2, r3, r4, r5, r6⟩ := glAv_facts rest
 refine zq7.done ?_
 refine wF [1000000] 4 func99 ntmps99 rfl rfl ?_
 intro _
 have hw0 := wrap64 (n := (bd.length : Int) - 1) (by omega) (by omega)
 simp -implicitDefEqProofs only [List.length_map, r1, r2, r3, r4, r5, hw0, evF, ↓evZ, implies_true, seval, tf_T1_99]
 refine zw5 (σ := Nat) [1000000] [0, 1, 2, 8] (fun j => j ≤ bd.length) (fun j => [(3, glAv ((bd.drop j).map (fun t => (⟨t, cut, up⟩ : IG)) ++ rest)), (9, .int .i64 ((j : Int) - 1))]) (fun _ => st) (fun j => j) (by decide +kernel) ⟨bd.length, Nat.le_refl _, zx7.mk (by simp -implicitDefEqProofs only [List.drop_length, List.map_nil, List.nil_append, List.length_map, r1, r2, r3, r4, r5, hw0, evF, ↓evZ, implies_true, seval, tf_T1_99])⟩ ?_
 intro j hj
 cases j with
 | zero =>
  rw [List.drop_zero]
  obtain ⟨s1, s2, s3, s4, s5, s6⟩ := glAv_facts (bd.map (fun t => (⟨t, cut, up⟩ : IG)) ++ rest)
  simp -implicitDefEqProofs only [List.length_map, s1, s2, s3, s4, s5, evE, ↓evZ2, ↓evZ3, ↓Int.cast_ofNat_Int, implies_true, zy2, aFn, List.contains, List.elem, zq3, zy1, zq2, sub, zx3, zw2, zw3, zy3, gd, zq1, zw0, zq0, zx0, zx2, zx1, zy0, zw1, List.range', ↓reduceIte, reduceCtorEq, Nat.reduceEqDiff, Nat.reduceAdd, Nat.reduceLeDiff, Nat.reduceMul, Nat.reduceLT, Nat.reduceBEq, Int.reduceEq, tf_T1_99]
  refine zq4 (fun h => absurd h (by simp)) (fun h => ?_)
  simp -implicitDefEqProofs only [List.length_map, s1, s2, s3, s4, s5, evF, ↓evZ, implies_true, seval, tf_T1_99]
  exact ⟨s6, Drops.refl _⟩
 | succ j =>
 obtain ⟨s1, s2, s3, s4, s5, s6⟩ := glAv_facts ((bd.drop (j + 1)).map (fun t => (⟨t, cut, up⟩ : IG)) ++ rest)
 obtain ⟨x, hx⟩ : ∃ x, bd[j]? = some x := ⟨_, List.getElem?_eq_getElem (by omega)⟩
 have hat := ev_at (av := Tm.av) (P := prog) eI_29 hx (Tm.av_width x)
 have hdr : bd.drop j = x :: bd.drop (j + 1) := by
  obtain ⟨h1, h2⟩ := List.getElem?_eq_some_iff.1 hx
  rw [List.drop_eq_getElem_cons h1, h2]
 have hc : ((j + 1 : Nat) : Int) - 1 = (j : Int) := by omega
 have hw := wrap64 (n := (j : Int) - 1) (by omega) (by omega)
 have hnx : glAv ((bd.drop j).map (fun t => (⟨t, cut, up⟩ : IG)) ++ rest) = .pptr (.agg (x.av.cells ++ [.int .i64 (cut : Int), .int .i64 up, glAv ((bd.drop (j + 1)).map (fun t => (⟨t, cut, up⟩ : IG)) ++ rest)])) := by
  rw [hdr]
  obtain ⟨k, n, s, ts⟩ := x
  rw [List.map_cons, List.cons_append, glAv_cons, Tm.av_mk]
  rfl
 generalize glAv ((bd.drop (j + 1)).map (fun t => (⟨t, cut, up⟩ : IG)) ++ rest) = A at *
 obtain ⟨k, n, s, ts⟩ := x
 simp only [Tm.av_mk] at hat hnx
 rw [hc]
 simp -implicitDefEqProofs only [List.length_map, s1, s2, s3, s4, s5, hat, hw, evF, ↓evZ, implies_true, seval, tf_T1_99]
 refine zq4 (fun h => ?_) (fun h => absurd h (by simp))
 simp -implicitDefEqProofs only [List.length_map, s1, s2, s3, s4, s5, hat, hw, evF, ↓evZ, implies_true, seval, tf_T1_99]
 trace_state
 refine ⟨j, by omega, by omega, zx7.mk (by rw [hnx]; simp -implicitDefEqProofs only [List.length_map, s1, s2, s3, s4, s5, hat, hw, evF, ↓evZ, implies_true, seval, tf_T1_99])⟩
abbrev tf_T1_115 := zi tI_3 (zi zI_3 underlying3)
theorem c_endOf (c : Int) (st : zy7) : zq7 prog 115 [.int .i64 c] st (fun r st' => r = .int .i64 (endC c) ∧ st' = st) := by
 refine zq7.done ?_
 refine wF [1000000] 1 func115 ntmps115 rfl rfl ?_
 intro _
 simp -implicitDefEqProofs only [evF, ↓evZ, implies_true, seval, tf_T1_115]
 unfold endC
 refine zq4 (fun h => ?_) (fun h => ?_)
 · simp -implicitDefEqProofs only [evF, ↓evZ, implies_true, seval, tf_T1_115]
   have h' : c = 2 := by simpa using h
   exact ⟨by rw [if_pos h']; rfl, Drops.refl _⟩
 rw [if_neg (show ¬ c = 2 by simpa using h)]
 simp -implicitDefEqProofs only [evF, ↓evZ, implies_true, seval, tf_T1_115]
 refine zq4 (fun h => ?_) (fun h => ?_)
 · simp -implicitDefEqProofs only [evF, ↓evZ, implies_true, seval, tf_T1_115]
   have h' : c = 3 := by simpa using h
   exact ⟨by rw [if_pos h']; rfl, Drops.refl _⟩
 rw [if_neg (show ¬ c = 3 by simpa using h)]
 simp -implicitDefEqProofs only [evF, ↓evZ, implies_true, seval, tf_T1_115]
 refine zq4 (fun h => ?_) (fun h => ?_)
 · simp -implicitDefEqProofs only [evF, ↓evZ, implies_true, seval, tf_T1_115]
   have h' : c = 4 := by simpa using h
   exact ⟨by rw [if_pos h']; rfl, Drops.refl _⟩
 rw [if_neg (show ¬ c = 4 by simpa using h)]
 simp -implicitDefEqProofs only [evF, ↓evZ, implies_true, seval, tf_T1_115]
 exact ⟨rfl, Drops.refl _⟩
abbrev tf_T1_117 := zi tI_9 (zi zI_9 (zi underlying9 (zi tI_29 (zi zI_29 (zi eI_29 (zi eB_29 (zi eZ_29 (zi underlying29 (zi tI_56 (zi zI_56 (zi fI_56_0 (zi fI_56_1 (zi fI_56_2 (zi fI_56_3 (zi bI_56 (zi tI_153 (zi zI_153 (zi fI_153_0 (zi fI_153_1 bI_153)))))))))))))))))))
theorem c_pred (k n : Int) (s : ByteArray) (ts : List Tm) (st : zy7) : zq7 prog 117 [(Tm.mk k n s ts).av] st (fun r st' => r = .agg [.str s, .int .i64 (ts.length : Int)] ∧ st' = st) := by
 refine zq7.done ?_
 simp only [Tm.av_mk]
 refine wF [1000000] 1 func117 ntmps117 rfl rfl ?_
 intro _
 simp -implicitDefEqProofs only [zy4, List.length_map, evF, ↓evZ, implies_true, seval, tf_T1_117]
 intro b2 h2
 exact ⟨by simp only [soft_agg, soft_tup, soft_int, soft_bool, soft_str, soft_slice, soft_fslice, soft_ptr, soft_pptr, soft_map, soft_mslice, Tm.soft, List.map_cons, List.map_nil], (Drops.refl _).upd h2⟩
abbrev tf_T1_116 := zi tI_3 (zi zI_3 (zi underlying3 (zi tI_28 (zi zI_28 (zi eI_28 (zi eB_28 (zi eZ_28 (zi underlying28 (zi tI_56 (zi zI_56 (zi fI_56_0 (zi fI_56_1 (zi fI_56_2 (zi fI_56_3 (zi bI_56 (zi tI_58 (zi zI_58 (zi fI_58_0 (zi fI_58_1 (zi bI_58 (zi tI_66 (zi zI_66 (zi eI_66 (zi eB_66 (zi eZ_66 (zi underlying66 (zi tI_153 (zi zI_153 (zi fI_153_0 (zi fI_153_1 bI_153))))))))))))))))))))))))))))))
theorem c_clausesFor (p : List Cl) (t : Tm) (hp : p.length ≤ 1048576) (st : zy7) : zq7 prog 116 [.slice (p.map clAv), .agg [.str t.s, .int .i64 (t.ts.length : Int)]] st (fun r st' => r = .slice ((forL p t).map nv) ∧ st' = st) := by
 rw [forL_eq]
 refine zq7.done ?_
 obtain ⟨tk, tn, ts', tts⟩ := t
 simp only [Tm.s, Tm.ts]
 refine wF [1000000] 2 func116 ntmps116 rfl rfl ?_
 intro _
 simp -implicitDefEqProofs only [List.length_map, evF, ↓evZ, implies_true, seval, tf_T1_116]
 refine zq6 (σ := Unit) [1000000] [3, 4, 8, 9] p 1 5 (fun i _ => ((List.range i).filter (forP p (.mk tk tn ts' tts))).map nv) (fun _ _ => True) (fun i _ => [(10, .int .i64 i)]) (fun _ _ => st) (fun i _ _ e he => by simp only [List.mem_map] at he; obtain ⟨t, _, rfl⟩ := he; exact ⟨rfl, rfl⟩) (by decide +kernel) ⟨(), 0, trivial, fun h => absurd rfl h, zx7.mk (by simp -implicitDefEqProofs only [accV_nil, accS_nil, List.range_zero, List.filter_nil, List.map_nil, List.length_map, evF, ↓evZ, implies_true, seval, tf_T1_116])⟩ (fun i x _ b hx hlt hlt' hdr hinv hb => ?_) (fun _ b hge hinv => ?_)
 case refine_2 =>
  simp -implicitDefEqProofs only [hge, fin_agg, fin_tup, fin_int, fin_bool, fin_str, fin_slice, fin_fslice, fin_pptr, fin_ptr, fin_func, fin_map, fin_undef, fin_accV, tm_fin, List.take_length, List.length_map, evF, ↓evZ, implies_true, seval, tf_T1_116]
  exact ⟨rfl, Drops.refl _⟩
 have hw := wrap64 (n := (i : Int) + 1) (by omega) (by omega)
 have hst := forT_step p (.mk tk tn ts' tts) i
 have hln := forT_len p (.mk tk tn ts' tts) i
 have hat := ev_at (av := clAv) (P := prog) eI_28 hx (clAv_width x)
 obtain ⟨⟨k, n, s', ts⟩, bd⟩ := x
 rw [clAv_mk] at hat
 have hP : forP p (.mk tk tn ts' tts) i = (decide (s' = ts') && decide ((ts.length : Int) = (tts.length : Int))) := by unfold forP; rw [hx]; rfl
 rw [hP] at hst
 have hpr := fun st => c_pred k n s' ts st
 have hesi : aBinT prog .eql 153 (.agg [.str s', .int .i64 (ts.length : Int)]) (.agg [.str ts', .int .i64 (tts.length : Int)]) = some (.bool (decide (s' = ts') && decide ((ts.length : Int) = (tts.length : Int)))) := by
  have h : eqSI prog 153 = true := by kernel_rfl
  simp only [aBinT, h, and_self, if_true]
 simp only [Tm.av_mk] at hpr
 simp -implicitDefEqProofs only [hlt', List.length_map, hat, hw, hesi, evF, ↓evZ, implies_true, seval, tf_T1_116]
 refine wP [(0, 1), (1, 2), (2, 2), (3, 2), (4, 1)] [0, 1, 2, 3, 4] mixed ?_
 simp -implicitDefEqProofs only [List.length_map, hat, hw, hesi, evF, ↓evZ, implies_true, seval, tf_T1_116]
 refine zw4 (hpr _) ?_
 simp -implicitDefEqProofs only [List.length_map, hat, hw, hesi, evF, ↓evZ, implies_true, seval, tf_T1_116]
 refine zq4 (fun h2 => ?_) (fun h2 => ?_)
 · rw [if_pos h2] at hst
   simp -implicitDefEqProofs only [List.length_map, hat, hw, hesi, evF, ↓evZ, implies_true, seval, tf_T1_116]
   refine acc_append eI_66 eB_66 eZ_66 rfl rfl (by intro e he; simp only [List.mem_cons, List.not_mem_nil, or_false] at he; subst he; exact ⟨rfl, rfl⟩) (nv_widths _) hb (by simp only [List.length_map, List.length_cons, List.length_nil]; omega) (by simp only [List.length_map, List.length_cons, List.length_nil]; omega) (fun b' hb' => ?_)
   rw [show ∀ l : List Nat, l.map nv ++ [AV.int .i64 (i : Int)] = (l ++ [i]).map nv from fun l => by simp [nv], ← hst] at hb' ⊢
   simp -implicitDefEqProofs only [List.length_map, hat, hw, hesi, evF, ↓evZ, implies_true, seval, tf_T1_116]
   exact ⟨(), b', hb', zx7.mk (by simp -implicitDefEqProofs only [hw, List.length_map, hat, hw, hesi, evF, ↓evZ, implies_true, seval, tf_T1_116])⟩
 · rw [if_neg (by rw [h2]; simp), List.append_nil] at hst
   rw [← hst] at hb ⊢
   simp -implicitDefEqProofs only [List.length_map, hat, hw, hesi, evF, ↓evZ, implies_true, seval, tf_T1_116]
   exact ⟨(), b, hb, zx7.mk (by simp -implicitDefEqProofs only [hw, List.length_map, hat, hw, hesi, evF, ↓evZ, implies_true, seval, tf_T1_116])⟩
def icAv : IC → AV
 | ⟨.mk k n s ts, node, rest, list, trail, taken⟩ => .agg [.int .i64 k, .int .i64 n, .str s, .slice (ts.map Tm.av), .int .i64 (node : Int), glAv rest, .slice (list.map nv), .int .i64 (trail : Int), .int .i64 (taken : Int)]
theorem icAv_mk (k n : Int) (s : ByteArray) (ts : List Tm) (node : Nat) (rest : List IG) (list : List Nat) (trail taken : Nat) : icAv ⟨.mk k n s ts, node, rest, list, trail, taken⟩ = .agg [.int .i64 k, .int .i64 n, .str s, .slice (ts.map Tm.av), .int .i64 (node : Int), glAv rest, .slice (list.map nv), .int .i64 (trail : Int), .int .i64 (taken : Int)] := rfl
theorem icAv_width (c : IC) : (icAv c).width = 9 := by obtain ⟨⟨k, n, s, ts⟩, _, _, _, _, _⟩ := c; rfl
theorem ic_widths (l : List IC) : ∀ e ∈ l.map icAv, e.width = 9 := by intro e he; simp only [List.mem_map] at he; obtain ⟨t, _, rfl⟩ := he; exact icAv_width t
theorem icAv_store (c : IC) : (icAv c).cells.all AV.storable = true := by
 obtain ⟨⟨k, n, s, ts⟩, _, rest, _, _, _⟩ := c
 rw [icAv_mk]
 have := (glAv_facts rest).2.2.2.2.1
 rw [List.all_eq_true]
 intro e he
 simp only [AV.cells, List.mem_cons, List.not_mem_nil, or_false] at he
 rcases he with rfl | rfl | rfl | rfl | rfl | rfl | rfl | rfl | rfl <;> first | rfl | exact this
def srC (c : Nat) (p : List Cl) (q : List Tm) (idx : Bool) (fuel used fresh : Int) (gl qc qn : AV) (mx : Int) : List AV :=
 [.ptr c 0, .slice (p.map clAv), .slice (q.map Tm.av), .bool idx, .bool false, .int .i64 fuel, .int .i64 used, .int .i64 fresh, gl, qc, qn, .int .i64 mx]
def srO (S c m : Nat) (qt qc qn : AV) : List Nat := [S, c, m] ++ tbk qt ++ ownB qc ++ ownB qn
theorem tbk_ownB (q : AV) : tbk q = ownB q := by cases q <;> rfl
theorem ownB_nodup (q : AV) : (ownB q).Nodup := by cases q <;> simp [ownB]
structure SrA (st0 st : zy7) (S c m : Nat) (qt qc qn : AV) (p : List Cl) (q : List Tm) (idx : Bool) (fuel used mx : Int) (nd : List AV) (i : IS) : Prop where
 cell : st S = some (.cells (srC c p q idx fuel used i.fresh (glAv i.goals) qc qn mx))
 sto : Sto st c m qt i.σ i.tr
 acC : AccW st 9 qc (i.chs.map icAv)
 acN : AccW st 6 qn nd
 ndl : nd.length = i.nn
 ndw : ∀ e ∈ nd, e.width = 6
 dis : (srO S c m qt qc qn).Nodup
 new : ∀ b ∈ srO S c m qt qc qn, st0 b = none
 keep : ∀ b o, st0 b = some o → st b = some o
theorem mem_srO {b S c m : Nat} {qt qc qn : AV} : b ∈ srO S c m qt qc qn ↔ b = S ∨ b = c ∨ b = m ∨ b ∈ tbk qt ∨ b ∈ ownB qc ∨ b ∈ ownB qn := by
 simp only [srO, List.mem_append, List.mem_cons, List.not_mem_nil, or_false, or_assoc]
section
variable {st0 st : zy7} {S c m : Nat} {qt qc qn : AV} {p : List Cl} {q : List Tm} {idx : Bool} {fuel used mx : Int} {nd : List AV} {i : IS}
theorem SrA.held (h : SrA st0 st S c m qt qc qn p q idx fuel used mx nd i) : ∀ b ∈ srO S c m qt qc qn, st b ≠ none := fun b hb => by
 rcases mem_srO.1 hb with rfl | rfl | rfl | hb | hb | hb
 · rw [h.cell]; simp
 · rw [h.sto.sub.cells]; simp
 · rw [h.sto.sub.map]; simp
 · obtain ⟨cs, e⟩ := h.sto.tb_some b hb; rw [e]; simp
 · obtain ⟨cs, e⟩ := h.acC.some b hb; rw [e]; simp
 · obtain ⟨cs, e⟩ := h.acN.some b hb; rw [e]; simp
theorem SrA.drops (h : SrA st0 st S c m qt qc qn p q idx fuel used mx nd i) : Drops st st0 := fun b => by
 refine ⟨fun e => ?_, h.keep b⟩
 cases hb : st0 b with
 | none => rfl
 | some o => rw [h.keep b o hb] at e; cases e
theorem SrA.fresh0 (h : SrA st0 st S c m qt qc qn p q idx fuel used mx nd i) {b : Nat} (hb : st b = none) : st0 b = none := (h.drops b).1 hb
theorem SrA.parts (h : SrA st0 st S c m qt qc qn p q idx fuel used mx nd i) : S ≠ c ∧ S ≠ m ∧ c ≠ m ∧ S ∉ tbk qt ∧ S ∉ ownB qc ∧ S ∉ ownB qn ∧ c ∉ tbk qt ∧ c ∉ ownB qc ∧ c ∉ ownB qn ∧ m ∉ tbk qt ∧ m ∉ ownB qc ∧ m ∉ ownB qn ∧ (∀ b ∈ tbk qt, b ∉ ownB qc ∧ b ∉ ownB qn) ∧ ∀ b ∈ ownB qc, b ∉ ownB qn := by
 have hd := h.dis
 simp only [srO, List.nodup_append, List.nodup_cons, List.mem_cons, List.not_mem_nil, or_false, not_or, List.mem_append] at hd
 obtain ⟨⟨⟨⟨⟨h1, h2⟩, h3, _⟩, h4, h5⟩, h6, h7⟩, h8, h9⟩ := hd
 refine ⟨h1, h2, h3, fun hb => h5 _ (.inl rfl) _ hb rfl, fun hb => h7 _ (.inl (.inl rfl)) _ hb rfl, fun hb => h9 _ (.inl (.inl (.inl rfl))) _ hb rfl,
  fun hb => h5 _ (.inr (.inl rfl)) _ hb rfl, fun hb => h7 _ (.inl (.inr (.inl rfl))) _ hb rfl, fun hb => h9 _ (.inl (.inl (.inr (.inl rfl)))) _ hb rfl,
  fun hb => h5 _ (.inr (.inr rfl)) _ hb rfl, fun hb => h7 _ (.inl (.inr (.inr rfl))) _ hb rfl, fun hb => h9 _ (.inl (.inl (.inr (.inr rfl)))) _ hb rfl,
  fun b hb => ⟨fun h' => h7 b (.inr hb) b h' rfl, fun h' => h9 b (.inl (.inr hb)) b h' rfl⟩, fun b hb h' => h9 b (.inr hb) b h' rfl⟩
theorem nodup_repl {X A A' Y : List Nat} (h : (X ++ A ++ Y).Nodup) (hA : A'.Nodup) (hn : ∀ b ∈ A', b ∈ A ∨ b ∉ X ++ A ++ Y) : (X ++ A' ++ Y).Nodup := by
 simp only [List.nodup_append, List.mem_append] at h ⊢
 obtain ⟨⟨hX, hA0, hXA⟩, hY, hXY⟩ := h
 refine ⟨⟨hX, hA, fun a ha b hb e => ?_⟩, hY, fun a ha b hb e => ?_⟩
 · subst e
   rcases hn a hb with h | h
   · exact hXA a ha a h rfl
   · simp only [List.mem_append, not_or] at h; exact h.1.1 ha
 · subst e
   rcases ha with ha | ha
   · exact hXY a (.inl ha) a hb rfl
   · rcases hn a ha with h | h
     · exact hXY a (.inr h) a hb rfl
     · simp only [List.mem_append, not_or] at h; exact h.2 hb
theorem SrA.go {st' : zy7} {qt' qc' qn' : AV} {fuel' used' mx' : Int} {nd' : List AV} {i' : IS} (h : SrA st0 st S c m qt qc qn p q idx fuel used mx nd i)
 (cell : st' S = some (.cells (srC c p q idx fuel' used' i'.fresh (glAv i'.goals) qc' qn' mx'))) (sto : Sto st' c m qt' i'.σ i'.tr) (acC : AccW st' 9 qc' (i'.chs.map icAv)) (acN : AccW st' 6 qn' nd') (ndl : nd'.length = i'.nn) (ndw : ∀ e ∈ nd', e.width = 6)
 (dis : (srO S c m qt' qc' qn').Nodup) (new : ∀ b ∈ srO S c m qt' qc' qn', b ∈ srO S c m qt qc qn ∨ st b = none) (frame : ∀ b o, st b = some o → b ∉ srO S c m qt qc qn → st' b = some o) :
 SrA st0 st' S c m qt' qc' qn' p q idx fuel' used' mx' nd' i' :=
 ⟨cell, sto, acC, acN, ndl, ndw, dis, fun b hb => by
  rcases new b hb with h1 | h1
  · exact h.new b h1
  · exact h.fresh0 h1, fun b o hb => frame b o (h.keep b o hb) fun hm => by rw [h.new b hm] at hb; cases hb⟩
theorem SrA.put {fuel' used' mx' : Int} {gl : List IG} {F : Nat} {cs : List AV} (h : SrA st0 st S c m qt qc qn p q idx fuel used mx nd i) (hcs : cs = srC c p q idx fuel' used' F (glAv gl) qc qn mx') :
 SrA st0 (st.upd S (.cells cs)) S c m qt qc qn p q idx fuel' used' mx' nd { i with goals := gl, fresh := F } := by
 obtain ⟨h1, h2, h3, h4, h5, h6, _⟩ := h.parts
 subst hcs
 refine h.go (zy7.upd_same _ _ _) (h.sto.upd h1 h2 h4) (h.acC.keep fun b hb => zy7.upd_ne _ _ (by rintro rfl; exact h5 hb)) (h.acN.keep fun b hb => zy7.upd_ne _ _ (by rintro rfl; exact h6 hb)) h.ndl h.ndw h.dis (fun b hb => .inl hb) fun b o hb hn => ?_
 rw [zy7.upd_ne _ _ (by rintro rfl; exact hn (mem_srO.2 (.inl rfl)))]
 exact hb
theorem SrA.turn {st' : zy7} {qt' : AV} {σ' : Sub} {tr' : List Int} (h : SrA st0 st S c m qt qc qn p q idx fuel used mx nd i) (hS : Sto st' c m qt' σ' tr') (hf : ∀ b o, st b = some o → b ≠ c → b ≠ m → b ∉ tbk qt → st' b = some o) (hn : ∀ b ∈ tbk qt', b ∈ tbk qt ∨ st b = none) :
 SrA st0 st' S c m qt' qc qn p q idx fuel used mx nd { i with σ := σ', tr := tr' } := by
 obtain ⟨h1, h2, h3, h4, h5, h6, h7, h8, h9, h10, h11, h12, h13, h14⟩ := h.parts
 have hC : ∀ b ∈ ownB qc, st' b = st b := fun b hb => by
  obtain ⟨cs, e⟩ := h.acC.some b hb
  rw [e, hf b _ e (by rintro rfl; exact h8 hb) (by rintro rfl; exact h11 hb) (fun hb' => (h13 b hb').1 hb)]
 have hN : ∀ b ∈ ownB qn, st' b = st b := fun b hb => by
  obtain ⟨cs, e⟩ := h.acN.some b hb
  rw [e, hf b _ e (by rintro rfl; exact h9 hb) (by rintro rfl; exact h12 hb) (fun hb' => (h13 b hb').2 hb)]
 refine h.go (hf S _ h.cell h1 h2 h4) hS (h.acC.keep hC) (h.acN.keep hN) h.ndl h.ndw ?_ (fun b hb => ?_) (fun b o hb hn' => ?_)
 · have hd := h.dis
   unfold srO at hd ⊢
   rw [List.append_assoc] at hd ⊢
   refine nodup_repl hd (by rw [tbk_ownB]; exact ownB_nodup _) fun b hb => ?_
   rcases hn b hb with h' | h'
   · exact .inl h'
   · refine .inr fun hm => h.held b ?_ h'
     unfold srO; rw [List.append_assoc]; exact hm
 · rcases mem_srO.1 hb with rfl | rfl | rfl | hb | hb | hb
   · exact .inl (mem_srO.2 (.inl rfl))
   · exact .inl (mem_srO.2 (.inr (.inl rfl)))
   · exact .inl (mem_srO.2 (.inr (.inr (.inl rfl))))
   · rcases hn b hb with h' | h'
     · exact .inl (mem_srO.2 (.inr (.inr (.inr (.inl h')))))
     · exact .inr h'
   · exact .inl (mem_srO.2 (.inr (.inr (.inr (.inr (.inl hb))))))
   · exact .inl (mem_srO.2 (.inr (.inr (.inr (.inr (.inr hb))))))
 · have := fun x => hn' (mem_srO.2 x)
   exact hf b o hb (by rintro rfl; exact this (.inr (.inl rfl))) (by rintro rfl; exact this (.inr (.inr (.inl rfl)))) fun hb' => this (.inr (.inr (.inr (.inl hb'))))
theorem SrA.post {st' : zy7} {σ' : Sub} {tr' : List Int} (h : SrA st0 st S c m qt qc qn p q idx fuel used mx nd i) (hP : Post c m st qt σ' tr' st') : ∃ qt', SrA st0 st' S c m qt' qc qn p q idx fuel used mx nd { i with σ := σ', tr := tr' } := by
 obtain ⟨q', hS, hQ⟩ := hP
 exact ⟨q', h.turn hS (fun b o hb h1 h2 h3 => hQ.frame b o hb h1 h2 h3) hQ.fresh⟩
end
theorem Sto.keepS {st st' : zy7} {c m : Nat} {q : AV} {σ : Sub} {tr : List Int} (h : Sto st c m q σ tr) (hc : st' c = st c) (hm : st' m = st m) (ht : ∀ b ∈ tbk q, st' b = st b) : Sto st' c m q σ tr := by
 refine ⟨⟨by rw [hc]; exact h.sub.cells, by rw [hm]; exact h.sub.map⟩, ?_, h.apart⟩
 rcases h.trail with h1 | ⟨b, cs, h1, h2, h3⟩
 · exact .inl h1
 · exact .inr ⟨b, cs, h1, by rw [ht b (by rw [h1]; simp [tbk])]; exact h2, h3⟩
section
variable {st0 st : zy7} {S c m : Nat} {qt qc qn : AV} {p : List Cl} {q : List Tm} {idx : Bool} {fuel used mx : Int} {nd : List AV} {i : IS}
theorem SrA.pushC {st' : zy7} {qc' : AV} {chs' : List IC} {cs : List AV} (h : SrA st0 st S c m qt qc qn p q idx fuel used mx nd i) (hacc : AccW st' 9 qc' (chs'.map icAv)) (hf : ∀ y, y ∉ ownB qc → y ∉ ownB qc' → st' y = st y) (hn : ∀ y ∈ ownB qc', y ∈ ownB qc ∨ st y = none)
 (hcs : cs = srC c p q idx fuel used i.fresh (glAv i.goals) qc' qn mx) : SrA st0 (st'.upd S (.cells cs)) S c m qt qc' qn p q idx fuel used mx nd { i with chs := chs' } := by
 obtain ⟨h1, h2, h3, h4, h5, h6, h7, h8, h9, h10, h11, h12, h13, h14⟩ := h.parts
 have same : ∀ b, st b ≠ none → b ∉ ownB qc → st' b = st b := fun b hb hq => hf b hq fun hq' => by
  rcases hn b hq' with h' | h'
  · exact hq h'
  · exact hb h'
 have hS : S ∉ ownB qc' := fun hb => by
  rcases hn S hb with h' | h'
  · exact h5 h'
  · rw [h.cell] at h'; cases h'
 subst hcs
 have held := fun b x => h.held b (mem_srO.2 x)
 refine h.go (zy7.upd_same _ _ _) (h.sto.keepS ?_ ?_ fun b hb => ?_) (hacc.keep fun b hb => zy7.upd_ne _ _ (by rintro rfl; exact hS hb)) (h.acN.keep fun b hb => ?_) h.ndl h.ndw ?_ (fun b hb => ?_) fun b o hb hn' => ?_
 · rw [zy7.upd_ne _ _ (Ne.symm h1)]; exact same c (held c (.inr (.inl rfl))) h8
 · rw [zy7.upd_ne _ _ (Ne.symm h2)]; exact same m (held m (.inr (.inr (.inl rfl)))) h11
 · rw [zy7.upd_ne _ _ (by rintro rfl; exact h4 hb)]; exact same b (held b (.inr (.inr (.inr (.inl hb))))) (h13 b hb).1
 · rw [zy7.upd_ne _ _ (by rintro rfl; exact h6 hb)]; exact same b (held b (.inr (.inr (.inr (.inr (.inr hb)))))) fun h' => h14 b h' hb
 · have hd := h.dis
   unfold srO at hd ⊢
   refine nodup_repl hd (ownB_nodup _) fun b hb => ?_
   rcases hn b hb with h' | h'
   · exact .inl h'
   · refine .inr fun hm => h.held b ?_ h'
     unfold srO; exact hm
 · rcases mem_srO.1 hb with rfl | rfl | rfl | hb | hb | hb
   · exact .inl (mem_srO.2 (.inl rfl))
   · exact .inl (mem_srO.2 (.inr (.inl rfl)))
   · exact .inl (mem_srO.2 (.inr (.inr (.inl rfl))))
   · exact .inl (mem_srO.2 (.inr (.inr (.inr (.inl hb)))))
   · rcases hn b hb with h' | h'
     · exact .inl (mem_srO.2 (.inr (.inr (.inr (.inr (.inl h'))))))
     · exact .inr h'
   · exact .inl (mem_srO.2 (.inr (.inr (.inr (.inr (.inr hb))))))
 · have hno := fun x => hn' (mem_srO.2 x)
   rw [zy7.upd_ne _ _ (by rintro rfl; exact hno (.inl rfl)), same b (by rw [hb]; simp) fun h' => hno (.inr (.inr (.inr (.inr (.inl h')))))]
   exact hb
theorem SrA.pushN {st' : zy7} {qn' : AV} {nd' : List AV} {n' : Nat} {cs : List AV} (h : SrA st0 st S c m qt qc qn p q idx fuel used mx nd i) (hacc : AccW st' 6 qn' nd') (hl : nd'.length = n') (hw : ∀ e ∈ nd', e.width = 6) (hf : ∀ y, y ∉ ownB qn → y ∉ ownB qn' → st' y = st y) (hn : ∀ y ∈ ownB qn', y ∈ ownB qn ∨ st y = none)
 (hcs : cs = srC c p q idx fuel used i.fresh (glAv i.goals) qc qn' mx) : SrA st0 (st'.upd S (.cells cs)) S c m qt qc qn' p q idx fuel used mx nd' { i with nn := n' } := by
 obtain ⟨h1, h2, h3, h4, h5, h6, h7, h8, h9, h10, h11, h12, h13, h14⟩ := h.parts
 have same : ∀ b, st b ≠ none → b ∉ ownB qn → st' b = st b := fun b hb hq => hf b hq fun hq' => by
  rcases hn b hq' with h' | h'
  · exact hq h'
  · exact hb h'
 have hS : S ∉ ownB qn' := fun hb => by
  rcases hn S hb with h' | h'
  · exact h6 h'
  · rw [h.cell] at h'; cases h'
 subst hcs
 have held := fun b x => h.held b (mem_srO.2 x)
 refine h.go (zy7.upd_same _ _ _) (h.sto.keepS ?_ ?_ fun b hb => ?_) (h.acC.keep fun b hb => ?_) (hacc.keep fun b hb => zy7.upd_ne _ _ (by rintro rfl; exact hS hb)) hl hw ?_ (fun b hb => ?_) fun b o hb hn' => ?_
 · rw [zy7.upd_ne _ _ (Ne.symm h1)]; exact same c (held c (.inr (.inl rfl))) h9
 · rw [zy7.upd_ne _ _ (Ne.symm h2)]; exact same m (held m (.inr (.inr (.inl rfl)))) h12
 · rw [zy7.upd_ne _ _ (by rintro rfl; exact h4 hb)]; exact same b (held b (.inr (.inr (.inr (.inl hb))))) (h13 b hb).2
 · rw [zy7.upd_ne _ _ (by rintro rfl; exact h5 hb)]; exact same b (held b (.inr (.inr (.inr (.inr (.inl hb)))))) (h14 b hb)
 · have hd := h.dis
   unfold srO at hd ⊢
   have := nodup_repl (X := [S, c, m] ++ tbk qt ++ ownB qc) (A := ownB qn) (A' := ownB qn') (Y := []) (by rw [List.append_nil]; exact hd) (ownB_nodup _) fun b hb => by
    rcases hn b hb with h' | h'
    · exact .inl h'
    · refine .inr fun hm => h.held b ?_ h'
      rw [List.append_nil] at hm
      unfold srO; exact hm
   rwa [List.append_nil] at this
 · rcases mem_srO.1 hb with rfl | rfl | rfl | hb | hb | hb
   · exact .inl (mem_srO.2 (.inl rfl))
   · exact .inl (mem_srO.2 (.inr (.inl rfl)))
   · exact .inl (mem_srO.2 (.inr (.inr (.inl rfl))))
   · exact .inl (mem_srO.2 (.inr (.inr (.inr (.inl hb)))))
   · exact .inl (mem_srO.2 (.inr (.inr (.inr (.inr (.inl hb))))))
   · rcases hn b hb with h' | h'
     · exact .inl (mem_srO.2 (.inr (.inr (.inr (.inr (.inr h'))))))
     · exact .inr h'
 · have hno := fun x => hn' (mem_srO.2 x)
   rw [zy7.upd_ne _ _ (by rintro rfl; exact hno (.inl rfl)), same b (by rw [hb]; simp) fun h' => hno (.inr (.inr (.inr (.inr (.inr h')))))]
   exact hb
theorem SrA.nodes {k : Nat} (h : SrA st0 st S c m qt qc qn p q idx fuel used mx nd i) (hk : k < i.nn) : ∃ b, qn = .mslice b 0 nd.length 6 := by
 have hl := h.ndl
 rcases h.acN with ⟨_, e⟩ | ⟨b, cs, e, _⟩
 · subst e; simp at hl; omega
 · exact ⟨b, e⟩
theorem SrA.nodeAt {b n : Nat} (h : SrA st0 st S c m qt qc (.mslice b 0 n 6) p q idx fuel used mx nd i) : ∃ cs, st b = some (.cells cs) ∧ nd.length * 6 ≤ cs.length := by
 rcases h.acN with ⟨e, _⟩ | ⟨b', cs, e, h2, _, h4⟩
 · cases e
 · cases e; exact ⟨cs, h2, h4⟩
theorem six_cells : ∀ (n : Nat) (cs : List AV), cs.length = n * 6 → ∃ nd : List AV, nd.length = n ∧ (∀ e ∈ nd, e.width = 6) ∧ nd.flatMap AV.cells = cs
 | 0, cs, h => ⟨[], rfl, by simp, by have : cs = [] := List.eq_nil_of_length_eq_zero (by simpa using h); subst this; rfl⟩
 | n + 1, cs, h => by
  obtain ⟨nd, h1, h2, h3⟩ := six_cells n (cs.drop 6) (by rw [List.length_drop, h]; omega)
  refine ⟨.agg (cs.take 6) :: nd, by simp [h1], fun e he => ?_, ?_⟩
  · rcases List.mem_cons.1 he with rfl | he
    · show (cs.take 6).length = 6
      rw [List.length_take, h]; omega
    · exact h2 e he
  · rw [List.flatMap_cons, h3]
    exact List.take_append_drop 6 cs
theorem SrA.setN {b k : Nat} {cs : List AV} {x : AV} (h : SrA st0 st S c m qt qc qn p q idx fuel used mx nd i) (hq : qn = .mslice b 0 nd.length 6) (hb : st b = some (.cells cs)) (hk : k < nd.length * 6) :
 ∃ nd', SrA st0 (st.upd b (.cells (zy4 cs k [x]))) S c m qt qc qn p q idx fuel used mx nd' i := by
 obtain ⟨h1, h2, h3, h4, h5, h6, h7, h8, h9, h10, h11, h12, h13, h14⟩ := h.parts
 have hbq : b ∈ ownB qn := by rw [hq]; simp [ownB]
 have hne : ∀ a, a ∉ ownB qn → st.upd b (.cells (zy4 cs k [x])) a = st a := fun a ha => zy7.upd_ne _ _ (by rintro rfl; exact ha hbq)
 have hcl : nd.length * 6 ≤ cs.length := by
  rcases h.acN with ⟨e, _⟩ | ⟨b', cs', e1, e2, e3, e4⟩
  · rw [hq] at e; cases e
  · rw [hq] at e1
    cases e1
    rw [hb] at e2; cases e2
    exact e4
 have hlen : (zy4 cs k [x]).length = cs.length := by
  simp only [zy4, List.length_append, List.length_take, List.length_drop, List.length_cons, List.length_nil]
  omega
 obtain ⟨nd', n1, n2, n3⟩ := six_cells nd.length ((zy4 cs k [x]).take (nd.length * 6)) (by rw [List.length_take, hlen]; omega)
 refine ⟨nd', h.go (by rw [hne S h6]; exact h.cell) (h.sto.keepS (hne c h9) (hne m h12) fun b hb => hne b (h13 b hb).2) (h.acC.keep fun b hb => hne b (h14 b hb)) (.inr ⟨b, _, by rw [hq, n1], zy7.upd_same _ _ _, by rw [n1, n3], by rw [n1, hlen]; exact hcl⟩) (by rw [n1]; exact h.ndl) n2 h.dis (fun b hb => .inl hb) fun a o ha hn => ?_⟩
 rw [hne a fun h' => hn (mem_srO.2 (.inr (.inr (.inr (.inr (.inr h'))))))]
 exact ha
end
theorem slice_accW {φ : AF} {t : TypeId} {ag : Bool} {w d k : Nat} {st : zy7} {qc : AV} {l : List AV} (hI : eI prog t = some (ag, w)) (hA : AccW st w qc l) (h : φ d = .int .i64 (k : Int)) (hk : k ≤ l.length) : aSlice prog φ t qc none (some (.tmp d)) none = some (cutQ k qc) := by
 rcases hA with ⟨rfl, rfl⟩ | ⟨b, cs, rfl, _⟩
 · have h0 : k = 0 := by simpa using hk
   subst h0
   exact slice_hiF hI h
 · exact slice_hiW hI h hk
section
variable {st0 st : zy7} {S c m : Nat} {qt qc qn : AV} {p : List Cl} {q : List Tm} {idx : Bool} {fuel used mx : Int} {nd : List AV} {i : IS}
theorem SrA.cutC {k : Nat} {cs : List AV} {gl : List IG} (h : SrA st0 st S c m qt qc qn p q idx fuel used mx nd i) (hk : k ≤ i.chs.length) (hcs : cs = srC c p q idx fuel used i.fresh (glAv gl) (cutQ k qc) qn mx) :
 SrA st0 (st.upd S (.cells cs)) S c m qt (cutQ k qc) qn p q idx fuel used mx nd { i with goals := gl, chs := i.chs.take k } := by
 obtain ⟨h1, h2, h3, h4, h5, h6, _⟩ := h.parts
 subst hcs
 have hA := h.acC.take (k := k) (by rw [List.length_map]; exact hk) (ic_widths _)
 rw [← List.map_take] at hA
 refine h.go (zy7.upd_same _ _ _) (h.sto.upd h1 h2 h4) (hA.keep fun b hb => zy7.upd_ne _ _ (by rw [ownB_cutQ] at hb; rintro rfl; exact h5 hb)) (h.acN.keep fun b hb => zy7.upd_ne _ _ (by rintro rfl; exact h6 hb)) h.ndl h.ndw (by unfold srO; rw [ownB_cutQ]; exact h.dis) (fun b hb => .inl (by unfold srO at hb; rw [ownB_cutQ] at hb; exact hb)) fun b o hb hn => ?_
 rw [zy7.upd_ne _ _ (by rintro rfl; exact hn (mem_srO.2 (.inl rfl)))]
 exact hb
theorem SrA.cutN {k : Nat} {cs : List AV} (h : SrA st0 st S c m qt qc qn p q idx fuel used mx nd i) (hk : k ≤ i.nn) (hcs : cs = srC c p q idx fuel used i.fresh (glAv i.goals) qc (cutQ k qn) mx) :
 SrA st0 (st.upd S (.cells cs)) S c m qt qc (cutQ k qn) p q idx fuel used mx (nd.take k) { i with nn := k } := by
 obtain ⟨h1, h2, h3, h4, h5, h6, _⟩ := h.parts
 subst hcs
 have hnl := h.ndl
 have hA := h.acN.take (k := k) (by rw [hnl]; exact hk) h.ndw
 refine h.go (zy7.upd_same _ _ _) (h.sto.upd h1 h2 h4) (h.acC.keep fun b hb => zy7.upd_ne _ _ (by rintro rfl; exact h5 hb)) (hA.keep fun b hb => zy7.upd_ne _ _ (by rw [ownB_cutQ] at hb; rintro rfl; exact h6 hb)) (by rw [List.length_take, hnl]; simp only; omega) (fun e he => h.ndw e (List.mem_of_mem_take he)) (by unfold srO; rw [ownB_cutQ]; exact h.dis) (fun b hb => .inl (by unfold srO at hb; rw [ownB_cutQ] at hb; exact hb)) fun b o hb hn => ?_
 rw [zy7.upd_ne _ _ (by rintro rfl; exact hn (mem_srO.2 (.inl rfl)))]
 exact hb
end
def CallG (c m : Nat) (st : zy7) (q : AV) (tr : List Int) (x : Int × Sub × List Int) (r : AV) (st' : zy7) : Prop := r = .int .i64 x.1 ∧ Post c m st q x.2.1 (tr ++ x.2.2) st'
theorem CallG.same {c m : Nat} {st : zy7} {q : AV} {σ : Sub} {tr : List Int} (h : Sto st c m q σ tr) {r : AV} (k : Int) (hr : r = .int .i64 k) : CallG c m st q tr (k, σ, []) r st := ⟨hr, q, by rw [List.append_nil]; exact h, StepQ.refl _ _ _ _⟩
theorem Sto.trailLen {P : Program} {t e : TypeId} {st : zy7} {c m : Nat} {q : AV} {σ : Sub} {tr : List Int} (h : Sto st c m q σ tr) (hu : P.underlying t = some (.slice e)) : aLen P t q = some (.int .i64 (tr.length : Int)) := by
 rcases h.trail with ⟨rfl, rfl⟩ | ⟨b, cs, rfl, _⟩ <;> simp only [aLen, hu, List.length_nil]
theorem c_unifyG {N : Nat} {σ : Sub} (hg : IsGood σ) (ho : AllS (OkX N) σ) (a b : Tm) (ha : OkX N a) (hb : OkX N b) (c m : Nat) (q : AV) (tr : List Int) (st : zy7) (hS : Sto st c m q σ tr) (hl : tr.length + N ≤ 1099511627776) :
 zq7 prog 134 [.ptr c 0, a.av, b.av] st (fun r st' => r = .bool (uniG σ a b).1 ∧ Post c m st q (uniG σ a b).2.1 (tr ++ (uniG σ a b).2.2) st') := by
 obtain ⟨r, σ', tr', hU⟩ := uniG_of hg ho ha hb
 obtain ⟨g, hrun⟩ := hU.run
 have hlen := nodup_VN hU.uni.nodup hU.inN
 rw [hU.eq]
 exact c_unify g σ a b r σ' tr' hg (ho.imp fun t ht => ht.1.small) ha.1.small hb.1.small hrun c m q tr st hS (by omega)
abbrev tf_Cg_114 := zi tI_3 (zi zI_3 (zi underlying3 (zi tI_4 (zi zI_4 (zi underlying4 (zi tI_9 (zi zI_9 (zi underlying9 (zi tI_29 (zi zI_29 (zi eI_29 (zi eB_29 (zi eZ_29 (zi underlying29 (zi tI_56 (zi zI_56 (zi fI_56_0 (zi fI_56_1 (zi fI_56_2 (zi fI_56_3 (zi bI_56 (zi tI_66 (zi zI_66 (zi eI_66 (zi eB_66 (zi eZ_66 (zi underlying66 (zi tI_123 (zi zI_123 (zi tI_144 (zi zI_144 (zi fI_144_0 (zi fI_144_1 bI_144)))))))))))))))))))))))))))))))))
theorem c_callG {N : Nat} {σ : Sub} (hg : IsGood σ) (ho : AllS (OkX N) σ) (n : Int) (s : ByteArray) (ks : List Tm) (hb : isBuiltin s (ks.length : Int) = true) (hv : ∀ x ∈ ks, OkX N x) (c m : Nat) (q : AV) (tr : List Int) (st : zy7) (hS : Sto st c m q σ tr) (hl : tr.length + N ≤ 1099511627776) :
 zq7 prog 114 [.ptr c 0, (Tm.mk 3 n s ks).av] st (CallG c m st q tr (solveG σ s ks)) := by
 have hcmp := c_compares 3 n s ks
 have hcs := bi_cases hb
 have hcpd := fun x y (hxy : ks = [x, y]) h => c_compared n s x y h (hv x (by simp [hxy])).1 (hv y (by simp [hxy])).1
 simp only [Tm.av_mk] at hcmp hcpd ⊢
 refine wF [1000000] 2 func114 ntmps114 rfl rfl ?_
 intro _
 simp -implicitDefEqProofs only [List.length_map, evF, ↓evZ, implies_true, seval, tf_Cg_114]
 refine (hcmp _).to ?_
 simp -implicitDefEqProofs only [List.length_map, evF, ↓evZ, implies_true, seval, tf_Cg_114]
 refine zq4 (fun h => ?_) (fun h => ?_)
 · have h' : ks.length = 2 ∧ inN cmpNames s = true := by simp at h; exact ⟨by omega, h.2⟩
   obtain ⟨x, y, rfl⟩ := kids2 h'.1
   have e : solveG σ s [x, y] = (cmpC s x y, σ, []) := by simp only [solveG]; rw [if_pos h'.2]
   rw [e]
   have hc := hcpd x y rfl h'.2
   simp only [List.map_cons, List.map_nil] at hc
   simp -implicitDefEqProofs only [List.length_map, evF, ↓evZ, implies_true, seval, tf_Cg_114]
   refine (hc _).to ?_
   simp -implicitDefEqProofs only [List.length_map, evF, ↓evZ, implies_true, seval, tf_Cg_114]
   exact CallG.same hS _ rfl
 have hnc : ks.length = 2 → inN cmpNames s = false := fun h2 => by simpa [h2] using h
 clear hcmp hcpd h
 simp -implicitDefEqProofs only [List.length_map, evF, ↓evZ, implies_true, seval, tf_Cg_114]
 refine zq4 (fun h => ?_) (fun h => ?_)
 · have hs : s = ⟨#[116, 114, 117, 101]⟩ := by simpa using h
   have hk := kids0 (ts := ks) (by subst hs; simpa [isBuiltin] using hb)
   subst hk
   simp -implicitDefEqProofs only [List.length_map, evF, ↓evZ, implies_true, seval, tf_Cg_114]
   exact CallG.same hS _ (by simp [codeB, hs])
 have ht : s ≠ ⟨#[116, 114, 117, 101]⟩ := by simpa using h
 simp -implicitDefEqProofs only [List.length_map, evF, ↓evZ, implies_true, seval, tf_Cg_114]
 refine zq4 (fun h => ?_) (fun h => ?_)
 · have hs : s = ⟨#[102, 97, 105, 108]⟩ := by simpa using h
   have hk := kids0 (ts := ks) (by subst hs; simpa [isBuiltin] using hb)
   subst hk
   simp -implicitDefEqProofs only [List.length_map, evF, ↓evZ, implies_true, seval, tf_Cg_114]
   exact CallG.same hS _ (by simp [codeB, hs])
 have hf : s ≠ ⟨#[102, 97, 105, 108]⟩ := by simpa using h
 simp -implicitDefEqProofs only [List.length_map, evF, ↓evZ, implies_true, seval, tf_Cg_114]
 refine zq4 (fun h => ?_) (fun h => ?_)
 · have hs : s = ⟨#[61]⟩ := by simpa using h
   obtain ⟨x, y, rfl⟩ := kids2 (ts := ks) (by subst hs; simp [isBuiltin] at hb; omega)
   have e : solveG σ s [x, y] = uniCG σ x y := by simp only [solveG]; rw [if_neg (by rw [hnc rfl]; simp), if_pos hs]
   rw [e]
   have hat0 : aIndexAddr prog 29 (.slice [x.av, y.av]) (.int .i64 0) = some (.pptr x.av) := ev_at (av := Tm.av) (l := [x, y]) (i := 0) eI_29 rfl (Tm.av_width x)
   have hat1 : aIndexAddr prog 29 (.slice [x.av, y.av]) (.int .i64 1) = some (.pptr y.av) := ev_at (av := Tm.av) (l := [x, y]) (i := 1) eI_29 rfl (Tm.av_width y)
   simp -implicitDefEqProofs only [hat0, hat1, Tm.av_agg, Tm.av_width, evF, ↓evZ, implies_true, seval, tf_Cg_114]
   refine wX [(0, 1), (1, 1), (2, 1), (3, 1), (4, 1), (5, 1), (6, 1), (7, 0), (8, 0), (9, 1)] [0, 1, 2, 3, 4, 5, 6, 9] none0' mixed rfl ext_none ?_
   simp -implicitDefEqProofs only [hat0, hat1, Tm.av_agg, Tm.av_width, evF, ↓evZ, implies_true, seval, tf_Cg_114]
   refine (c_unifyG hg ho x y (hv x (by simp)) (hv y (by simp)) c m q tr _ hS hl).mono ?_
   rintro _ s2 ⟨rfl, hP⟩
   simp -implicitDefEqProofs only [hat0, hat1, Tm.av_agg, Tm.av_width, evF, ↓evZ, implies_true, seval, tf_Cg_114]
   refine ⟨ext_none, ?_⟩
   refine (c_holds _ _).to ?_
   simp -implicitDefEqProofs only [hat0, hat1, Tm.av_agg, Tm.av_width, evF, ↓evZ, implies_true, seval, tf_Cg_114]
   exact ⟨ext_none, rfl, hP⟩
 have he : s ≠ ⟨#[61]⟩ := by simpa using h
 simp -implicitDefEqProofs only [List.length_map, evF, ↓evZ, implies_true, seval, tf_Cg_114]
 refine zq4 (fun h => ?_) (fun h => ?_)
 · have hs : s = ⟨#[92, 61]⟩ := by simpa using h
   obtain ⟨x, y, rfl⟩ := kids2 (ts := ks) (by subst hs; simp [isBuiltin] at hb; omega)
   have e : solveG σ s [x, y] = (codeB (!(uniG σ x y).1), σ, []) := by simp only [solveG]; rw [if_neg (by rw [hnc rfl]; simp), if_neg he, if_pos hs]
   rw [e]
   have e1 := hS.sub.cells
   have hql := hS.trailLen underlying66
   obtain ⟨hqa, hqw, hqj, hqc, hqs⟩ := hS.shape
   have hat0 : aIndexAddr prog 29 (.slice [x.av, y.av]) (.int .i64 0) = some (.pptr x.av) := ev_at (av := Tm.av) (l := [x, y]) (i := 0) eI_29 rfl (Tm.av_width x)
   have hat1 : aIndexAddr prog 29 (.slice [x.av, y.av]) (.int .i64 1) = some (.pptr y.av) := ev_at (av := Tm.av) (l := [x, y]) (i := 1) eI_29 rfl (Tm.av_width y)
   simp -implicitDefEqProofs only [hat0, hat1, Tm.av_agg, Tm.av_width, e1, hql, hqa, hqw, hqj, evF, ↓evZ, implies_true, seval, tf_Cg_114]
   refine wX [(0, 1), (1, 1), (2, 1), (3, 1), (4, 1), (5, 1), (6, 1), (7, 0), (8, 1)] [0, 1, 2, 3, 4, 5, 6, 8] none0' mixed rfl ext_none ?_
   simp -implicitDefEqProofs only [hat0, hat1, Tm.av_agg, Tm.av_width, e1, hql, hqa, hqw, hqj, evF, ↓evZ, implies_true, seval, tf_Cg_114]
   refine (c_unifyG hg ho x y (hv x (by simp)) (hv y (by simp)) c m q tr _ hS hl).mono ?_
   rintro _ s2 ⟨rfl, hP⟩
   obtain ⟨r, σ', add, hU⟩ := uniG_of hg ho (hv x (by simp)) (hv y (by simp))
   rw [hU.eq] at hP ⊢
   obtain ⟨q', hS2, hQ2⟩ := hP
   have hadd := nodup_VN hU.uni.nodup hU.inN
   simp -implicitDefEqProofs only [hat0, hat1, Tm.av_agg, Tm.av_width, e1, hql, hqa, hqw, hqj, evF, ↓evZ, implies_true, seval, tf_Cg_114]
   refine ⟨ext_none, ?_⟩
   refine (c_undoG σ' (tr ++ add) tr.length (by simp) c m q' s2 hS2 (by rw [List.length_append]; omega)).mono ?_
   rintro _ s3 ⟨rfl, q2, hS3, hb3, hk3⟩
   rw [List.drop_left, List.take_left, show σ'.out add = σ from funext fun n => hU.out n] at hS3
   simp -implicitDefEqProofs only [hat0, hat1, Tm.av_agg, Tm.av_width, e1, hql, hqa, hqw, hqj, evF, ↓evZ, implies_true, seval, tf_Cg_114]
   refine (c_holds _ _).to ?_
   simp -implicitDefEqProofs only [hat0, hat1, Tm.av_agg, Tm.av_width, e1, hql, hqa, hqw, hqj, evF, ↓evZ, implies_true, seval, tf_Cg_114]
   refine ⟨rfl, q2, by rw [List.append_nil]; exact hS3, fun b o h h1 h2 h3 => hk3 b o (hQ2.frame b o h h1 h2 h3) h1 h2, fun b hb' => hQ2.fresh b (hb3 b hb')⟩
 have hne : s ≠ ⟨#[92, 61]⟩ := by simpa using h
 simp -implicitDefEqProofs only [List.length_map, evF, ↓evZ, implies_true, seval, tf_Cg_114]
 refine zq4 (fun h => ?_) (fun h => ?_)
 · have hs : s = ⟨#[61, 61]⟩ := by simpa using h
   obtain ⟨x, y, rfl⟩ := kids2 (ts := ks) (by subst hs; simp [isBuiltin] at hb; omega)
   have e : solveG σ s [x, y] = (codeB (x.same y), σ, []) := by simp only [solveG]; rw [if_neg (by rw [hnc rfl]; simp), if_neg he, if_neg hne, if_pos hs]
   rw [e]
   have hat0 : aIndexAddr prog 29 (.slice [x.av, y.av]) (.int .i64 0) = some (.pptr x.av) := ev_at (av := Tm.av) (l := [x, y]) (i := 0) eI_29 rfl (Tm.av_width x)
   have hat1 : aIndexAddr prog 29 (.slice [x.av, y.av]) (.int .i64 1) = some (.pptr y.av) := ev_at (av := Tm.av) (l := [x, y]) (i := 1) eI_29 rfl (Tm.av_width y)
   simp -implicitDefEqProofs only [hat0, hat1, Tm.av_agg, Tm.av_width, evF, ↓evZ, implies_true, seval, tf_Cg_114]
   refine arun_drawA mixed (by decide +kernel) (by decide +kernel) ?_
   simp -implicitDefEqProofs only [hat0, hat1, Tm.av_agg, Tm.av_width, evF, ↓evZ, implies_true, seval, tf_Cg_114]
   refine zw4 (c_impl_TermSame x y _) ?_
   simp -implicitDefEqProofs only [hat0, hat1, Tm.av_agg, Tm.av_width, evF, ↓evZ, implies_true, seval, tf_Cg_114]
   refine zw4 (c_holds _ _) ?_
   simp -implicitDefEqProofs only [hat0, hat1, Tm.av_agg, Tm.av_width, evF, ↓evZ, implies_true, seval, tf_Cg_114]
   exact CallG.same hS _ rfl
 have hee : s ≠ ⟨#[61, 61]⟩ := by simpa using h
 simp -implicitDefEqProofs only [List.length_map, evF, ↓evZ, implies_true, seval, tf_Cg_114]
 refine zq4 (fun h => ?_) (fun h => ?_)
 · have hs : s = ⟨#[105, 115]⟩ := by simpa using h
   obtain ⟨x, y, rfl⟩ := kids2 (ts := ks) (by subst hs; simp [isBuiltin] at hb; omega)
   have e : solveG σ s [x, y] = if y.ev.2 ≠ 0 then (y.ev.2, σ, []) else uniCG σ x (itm y.ev.1) := by simp only [solveG]; rw [if_neg (by rw [hnc rfl]; simp), if_neg he, if_neg hne, if_neg hee]
   rw [e]
   have hy := hv y (by simp)
   have hin := itm_okX (N := N) (Tm.ev_in y hy.1)
   have har := fun st => c_arith y st hy.1
   generalize y.ev.1 = a at *
   generalize y.ev.2 = ca at *
   have hat0 : aIndexAddr prog 29 (.slice [x.av, y.av]) (.int .i64 0) = some (.pptr x.av) := ev_at (av := Tm.av) (l := [x, y]) (i := 0) eI_29 rfl (Tm.av_width x)
   have hat1 : aIndexAddr prog 29 (.slice [x.av, y.av]) (.int .i64 1) = some (.pptr y.av) := ev_at (av := Tm.av) (l := [x, y]) (i := 1) eI_29 rfl (Tm.av_width y)
   simp -implicitDefEqProofs only [hat0, hat1, Tm.av_agg, Tm.av_width, evF, ↓evZ, implies_true, seval, tf_Cg_114]
   refine (har _).to ?_
   simp -implicitDefEqProofs only [hat0, hat1, Tm.av_agg, Tm.av_width, evF, ↓evZ, implies_true, seval, tf_Cg_114]
   refine zq4 (fun h4 => ?_) (fun h4 => ?_)
   · simp -implicitDefEqProofs only [hat0, hat1, Tm.av_agg, Tm.av_width, evF, ↓evZ, implies_true, seval, tf_Cg_114]
     have h4' : ca ≠ 0 := by simpa using h4
     rw [if_pos h4']
     exact CallG.same hS _ rfl
   have h4' : ca = 0 := by simpa using h4
   subst h4'
   rw [if_neg (by simp)]
   simp -implicitDefEqProofs only [hat0, hat1, Tm.av_agg, Tm.av_width, evF, ↓evZ, implies_true, seval, tf_Cg_114]
   refine wX [(0, 1), (1, 1), (2, 1), (3, 1), (4, 1), (5, 0), (6, 0), (7, 0), (8, 1)] [0, 1, 2, 3, 4, 8] none0' mixed rfl ext_none ?_
   simp -implicitDefEqProofs only [hat0, hat1, Tm.av_agg, Tm.av_width, evF, ↓evZ, implies_true, seval, tf_Cg_114]
   refine (c_number a _).to ?_
   simp -implicitDefEqProofs only [hat0, hat1, Tm.av_agg, Tm.av_width, evF, ↓evZ, implies_true, seval, tf_Cg_114]
   refine ⟨ext_none, ?_⟩
   refine (c_unifyG hg ho x (itm a) (hv x (by simp)) hin c m q tr _ hS hl).mono ?_
   rintro _ s2 ⟨rfl, hP⟩
   simp -implicitDefEqProofs only [hat0, hat1, Tm.av_agg, Tm.av_width, evF, ↓evZ, implies_true, seval, tf_Cg_114]
   refine ⟨ext_none, ?_⟩
   refine (c_holds _ _).to ?_
   simp -implicitDefEqProofs only [hat0, hat1, Tm.av_agg, Tm.av_width, evF, ↓evZ, implies_true, seval, tf_Cg_114]
   exact ⟨ext_none, rfl, hP⟩
 have his : s ≠ ⟨#[105, 115]⟩ := by simpa using h
 simp -implicitDefEqProofs only [List.length_map, evF, ↓evZ, implies_true, seval, tf_Cg_114]
 refine zq4 (fun h => ?_) (fun h => ?_)
 · have hs : s = ⟨#[118, 97, 114]⟩ := by simpa using h
   obtain ⟨x, rfl⟩ := kids1 (ts := ks) (by subst hs; simp [isBuiltin] at hb; omega)
   have e : solveG σ s [x] = (codeB (testB s x), σ, []) := rfl
   rw [e]
   subst hs
   obtain ⟨xk, xn, xs, xt⟩ := x
   have hat0 : aIndexAddr prog 29 (.slice [(Tm.mk xk xn xs xt).av]) (.int .i64 0) = some (.pptr (Tm.mk xk xn xs xt).av) := ev_at (av := Tm.av) (l := [Tm.mk xk xn xs xt]) (i := 0) eI_29 rfl (Tm.av_width _)
   have eat := c_isAtom xk xn xs xt
   simp only [Tm.av_mk] at hat0 eat
   simp only [List.map_cons, List.map_nil, Tm.av_mk]
   simp -implicitDefEqProofs only [hat0, evF, ↓evZ, implies_true, seval, tf_Cg_114]
   refine (c_holds _ _).to ?_
   simp -implicitDefEqProofs only [hat0, evF, ↓evZ, implies_true, seval, tf_Cg_114]
   exact CallG.same hS _ rfl
 have hva : s ≠ ⟨#[118, 97, 114]⟩ := by simpa using h
 simp -implicitDefEqProofs only [List.length_map, evF, ↓evZ, implies_true, seval, tf_Cg_114]
 refine zq4 (fun h => ?_) (fun h => ?_)
 · have hs : s = ⟨#[110, 111, 110, 118, 97, 114]⟩ := by simpa using h
   obtain ⟨x, rfl⟩ := kids1 (ts := ks) (by subst hs; simp [isBuiltin] at hb; omega)
   have e : solveG σ s [x] = (codeB (testB s x), σ, []) := rfl
   rw [e]
   subst hs
   obtain ⟨xk, xn, xs, xt⟩ := x
   have hat0 : aIndexAddr prog 29 (.slice [(Tm.mk xk xn xs xt).av]) (.int .i64 0) = some (.pptr (Tm.mk xk xn xs xt).av) := ev_at (av := Tm.av) (l := [Tm.mk xk xn xs xt]) (i := 0) eI_29 rfl (Tm.av_width _)
   have eat := c_isAtom xk xn xs xt
   simp only [Tm.av_mk] at hat0 eat
   simp only [List.map_cons, List.map_nil, Tm.av_mk]
   simp -implicitDefEqProofs only [hat0, evF, ↓evZ, implies_true, seval, tf_Cg_114]
   refine (c_holds _ _).to ?_
   simp -implicitDefEqProofs only [hat0, evF, ↓evZ, implies_true, seval, tf_Cg_114]
   exact CallG.same hS _ rfl
 have hnv : s ≠ ⟨#[110, 111, 110, 118, 97, 114]⟩ := by simpa using h
 simp -implicitDefEqProofs only [List.length_map, evF, ↓evZ, implies_true, seval, tf_Cg_114]
 refine zq4 (fun h => ?_) (fun h => ?_)
 · have hs : s = ⟨#[97, 116, 111, 109]⟩ := by simpa using h
   obtain ⟨x, rfl⟩ := kids1 (ts := ks) (by subst hs; simp [isBuiltin] at hb; omega)
   have e : solveG σ s [x] = (codeB (testB s x), σ, []) := rfl
   rw [e]
   subst hs
   obtain ⟨xk, xn, xs, xt⟩ := x
   have hat0 : aIndexAddr prog 29 (.slice [(Tm.mk xk xn xs xt).av]) (.int .i64 0) = some (.pptr (Tm.mk xk xn xs xt).av) := ev_at (av := Tm.av) (l := [Tm.mk xk xn xs xt]) (i := 0) eI_29 rfl (Tm.av_width _)
   have eat := c_isAtom xk xn xs xt
   simp only [Tm.av_mk] at hat0 eat
   simp only [List.map_cons, List.map_nil, Tm.av_mk]
   simp -implicitDefEqProofs only [hat0, evF, ↓evZ, implies_true, seval, tf_Cg_114]
   refine (eat _).to ?_
   simp -implicitDefEqProofs only [hat0, evF, ↓evZ, implies_true, seval, tf_Cg_114]
   refine (c_holds _ _).to ?_
   simp -implicitDefEqProofs only [hat0, evF, ↓evZ, implies_true, seval, tf_Cg_114]
   exact CallG.same hS _ rfl
 have hat : s ≠ ⟨#[97, 116, 111, 109]⟩ := by simpa using h
 simp -implicitDefEqProofs only [List.length_map, evF, ↓evZ, implies_true, seval, tf_Cg_114]
 refine zq4 (fun h => ?_) (fun h => ?_)
 · have hs : s = ⟨#[105, 110, 116]⟩ := by simpa using h
   obtain ⟨x, rfl⟩ := kids1 (ts := ks) (by subst hs; simp [isBuiltin] at hb; omega)
   have e : solveG σ s [x] = (codeB (testB s x), σ, []) := rfl
   rw [e]
   subst hs
   obtain ⟨xk, xn, xs, xt⟩ := x
   have hat0 : aIndexAddr prog 29 (.slice [(Tm.mk xk xn xs xt).av]) (.int .i64 0) = some (.pptr (Tm.mk xk xn xs xt).av) := ev_at (av := Tm.av) (l := [Tm.mk xk xn xs xt]) (i := 0) eI_29 rfl (Tm.av_width _)
   have eat := c_isAtom xk xn xs xt
   simp only [Tm.av_mk] at hat0 eat
   simp only [List.map_cons, List.map_nil, Tm.av_mk]
   simp -implicitDefEqProofs only [hat0, evF, ↓evZ, implies_true, seval, tf_Cg_114]
   refine (c_holds _ _).to ?_
   simp -implicitDefEqProofs only [hat0, evF, ↓evZ, implies_true, seval, tf_Cg_114]
   exact CallG.same hS _ rfl
 have hint : s ≠ ⟨#[105, 110, 116]⟩ := by simpa using h
 have hs : s = ⟨#[97, 114, 103]⟩ ∧ ks.length = 3 := by
  rcases hcs with ⟨h2, h3⟩ | ⟨h2, h3⟩ | ⟨h2, h3⟩ | ⟨h2, h3⟩
  · rw [hnc h2] at h3
    simp [he, hne, hee, his] at h3
  · simp [ht, hf] at h3
  · simp [hva, hnv, hat, hint] at h3
  · exact ⟨h3, h2⟩
 obtain ⟨hs, hk3⟩ := hs
 obtain ⟨x, y, z, rfl⟩ := kids3 hk3
 have hz := hv z (by simp)
 have hy := hv y (by simp)
 have e : solveG σ s [x, y, z] = argCG σ x y z := rfl
 rw [e]
 unfold argCG
 have hat0 : aIndexAddr prog 29 (.slice [x.av, y.av, z.av]) (.int .i64 0) = some (.pptr x.av) := ev_at (av := Tm.av) (l := [x, y, z]) (i := 0) eI_29 rfl (Tm.av_width x)
 have hat1 : aIndexAddr prog 29 (.slice [x.av, y.av, z.av]) (.int .i64 1) = some (.pptr y.av) := ev_at (av := Tm.av) (l := [x, y, z]) (i := 1) eI_29 rfl (Tm.av_width y)
 have hat2 : aIndexAddr prog 29 (.slice [x.av, y.av, z.av]) (.int .i64 2) = some (.pptr z.av) := ev_at (av := Tm.av) (l := [x, y, z]) (i := 2) eI_29 rfl (Tm.av_width z)
 clear hcs hb hnc hv e
 obtain ⟨xk, xn, xs, xt⟩ := x
 obtain ⟨yk, yn, ys, yt⟩ := y
 have hyl : yt.length ≤ 4 := by
  exact hy.1.kind.2
 rw [Tm.av_mk] at hat0
 simp only [Tm.av_mk xk, Tm.av_mk yk] at hat0 hat1 hat2
 simp only [List.map_cons, List.map_nil, Tm.av_mk xk, Tm.av_mk yk, Tm.k, Tm.ts]
 simp -implicitDefEqProofs only [hat0, hat1, hat2, Tm.av_agg, Tm.av_width, List.length_map, evF, ↓evZ, implies_true, seval, tf_Cg_114]
 refine zx4 (fun h => ?_) (fun h => ?_)
 case refine_2 =>
  have h' : xk = 1 := by simpa using h
  simp -implicitDefEqProofs only [h, hat0, hat1, hat2, Tm.av_agg, Tm.av_width, List.length_map, evF, ↓evZ, implies_true, seval, tf_Cg_114]
  rw [if_pos (.inl h')]
  exact CallG.same hS _ rfl
 have hx1 : xk ≠ 1 := by simpa using h
 simp -implicitDefEqProofs only [h, hat0, hat1, hat2, Tm.av_agg, Tm.av_width, List.length_map, evF, ↓evZ, implies_true, seval, tf_Cg_114]
 refine zq4 (fun h1 => ?_) (fun h1 => ?_)
 · have h' : yk = 1 := by simpa using h1
   simp -implicitDefEqProofs only [hat0, hat1, hat2, Tm.av_agg, Tm.av_width, List.length_map, evF, ↓evZ, implies_true, seval, tf_Cg_114]
   rw [if_pos (.inr h')]
   exact CallG.same hS _ rfl
 have hy1 : yk ≠ 1 := by simpa using h1
 rw [if_neg (fun h2 => h2.elim hx1 hy1)]
 have h3 : ∀ s2, (xk ≠ 2 ∨ yk ≠ 3 ∨ yt.length = 0) → s2 = st → CallG c m st q tr (if xk ≠ 2 ∨ yk ≠ 3 ∨ yt.length = 0 then ((3 : Int), σ, []) else match argT (.mk xk xn xs xt) (.mk yk yn ys yt) with | some u => uniCG σ z u | none => (1, σ, [])) (.int .i64 3) s2 := fun s2 hh e => by
  subst e
  rw [if_pos hh]
  exact CallG.same hS _ rfl
 simp -implicitDefEqProofs only [hat0, hat1, hat2, Tm.av_agg, Tm.av_width, List.length_map, evF, ↓evZ, implies_true, seval, tf_Cg_114]
 refine zx4 (fun h4 => ?_) (fun h4 => ?_)
 case refine_2 =>
  have h' : xk ≠ 2 := by simpa using h4
  simp -implicitDefEqProofs only [h4, hat0, hat1, hat2, Tm.av_agg, Tm.av_width, List.length_map, evF, ↓evZ, implies_true, seval, tf_Cg_114]
  exact h3 _ (.inl h') rfl
 have hx2 : xk = 2 := by simpa using h4
 simp -implicitDefEqProofs only [h4, hat0, hat1, hat2, Tm.av_agg, Tm.av_width, List.length_map, evF, ↓evZ, implies_true, seval, tf_Cg_114]
 refine zx4 (fun h5 => ?_) (fun h5 => ?_)
 case refine_2 =>
  have h' : yk ≠ 3 := by simpa using h5
  simp -implicitDefEqProofs only [h5, hat0, hat1, hat2, Tm.av_agg, Tm.av_width, List.length_map, evF, ↓evZ, implies_true, seval, tf_Cg_114]
  exact h3 _ (.inr (.inl h')) rfl
 have hy3 : yk = 3 := by simpa using h5
 simp -implicitDefEqProofs only [h5, hat0, hat1, hat2, Tm.av_agg, Tm.av_width, List.length_map, evF, ↓evZ, implies_true, seval, tf_Cg_114]
 refine zq4 (fun h6 => ?_) (fun h6 => ?_)
 · have h' : yt.length = 0 := by simp at h6; simp [h6]
   simp -implicitDefEqProofs only [hat0, hat1, hat2, Tm.av_agg, Tm.av_width, List.length_map, evF, ↓evZ, implies_true, seval, tf_Cg_114]
   exact h3 _ (.inr (.inr h')) rfl
 have hyt : yt.length ≠ 0 := by simp at h6; simpa using h6
 clear h3
 rw [if_neg (by simp [hx2, hy3]; intro h7; simp [h7] at hyt)]
 simp -implicitDefEqProofs only [hat0, hat1, hat2, Tm.av_agg, Tm.av_width, List.length_map, evF, ↓evZ, implies_true, seval, tf_Cg_114]
 refine arun_drawA mixed (by decide +kernel) (by decide +kernel) ?_
 simp -implicitDefEqProofs only [hat0, hat1, hat2, Tm.av_agg, Tm.av_width, List.length_map, evF, ↓evZ, implies_true, seval, tf_Cg_114]
 refine zw4 (c_within xn 1 _ _) ?_
 simp -implicitDefEqProofs only [hat0, hat1, hat2, Tm.av_agg, Tm.av_width, List.length_map, evF, ↓evZ, implies_true, seval, tf_Cg_114]
 refine zq4 (fun h7 => ?_) (fun h7 => ?_)
 · have h' : ¬ (1 ≤ xn ∧ xn ≤ yt.length) := by simp at h7; omega
   have ea : argT (.mk xk xn xs xt) (.mk yk yn ys yt) = none := if_neg h'
   rw [ea]
   simp -implicitDefEqProofs only [hat0, hat1, hat2, Tm.av_agg, Tm.av_width, List.length_map, evF, ↓evZ, implies_true, seval, tf_Cg_114]
   exact CallG.same hS _ rfl
 have h' : 1 ≤ xn ∧ xn ≤ yt.length := by simp at h7; omega
 obtain ⟨i, hi⟩ : ∃ i : Nat, xn - 1 = i := ⟨(xn - 1).toNat, by omega⟩
 have hlt : i < yt.length := by omega
 obtain ⟨u, hu⟩ : ∃ u, yt[i]? = some u := ⟨_, List.getElem?_eq_getElem hlt⟩
 have ea : argT (.mk xk xn xs xt) (.mk yk yn ys yt) = some u := by
  refine (if_pos h').trans ?_
  show yt[(xn - 1).toNat]? = some u
  rw [hi, Int.toNat_natCast, hu]
 rw [ea]
 have huv : OkX N u := okX_kids N (.mk yk yn ys yt) hy1 hy u (List.mem_of_getElem? hu)
 have hw : IntKind.i64.wrap (xn - 1) = (i : Int) := by rw [wrap64 (by omega) (by omega)]; exact hi
 have hatu := ev_at (av := Tm.av) (P := prog) eI_29 hu (Tm.av_width u)
 simp -implicitDefEqProofs only [hat0, hat1, hat2, hatu, hw, Tm.av_agg, Tm.av_width, List.length_map, evF, ↓evZ, implies_true, seval, tf_Cg_114]
 refine wX [(0, 1), (1, 1), (2, 1), (3, 1), (4, 1), (5, 1), (6, 1), (7, 1), (8, 1), (9, 1), (10, 1), (11, 1), (12, 1), (13, 1), (14, 1), (15, 0), (16, 0), (17, 1)] [0, 1, 2, 3, 4, 5, 6, 7, 8, 9, 10, 11, 12, 13, 14, 17] none0' mixed rfl ext_none ?_
 simp -implicitDefEqProofs only [hat0, hat1, hat2, hatu, hw, Tm.av_agg, Tm.av_width, List.length_map, evF, ↓evZ, implies_true, seval, tf_Cg_114]
 refine (c_unifyG hg ho z u hz huv c m q tr _ hS hl).mono ?_
 rintro _ s2 ⟨rfl, hP⟩
 simp -implicitDefEqProofs only [hat0, hat1, hat2, hatu, hw, Tm.av_agg, Tm.av_width, List.length_map, evF, ↓evZ, implies_true, seval, tf_Cg_114]
 refine ⟨ext_none, ?_⟩
 refine (c_holds _ _).to ?_
 simp -implicitDefEqProofs only [hat0, hat1, hat2, hatu, hw, Tm.av_agg, Tm.av_width, List.length_map, evF, ↓evZ, implies_true, seval, tf_Cg_114]
 exact ⟨ext_none, rfl, hP⟩
abbrev tf_T3_143 := zi tI_3 (zi zI_3 (zi underlying3 (zi tI_56 (zi zI_56 (zi fI_56_0 (zi fI_56_1 (zi fI_56_2 (zi fI_56_3 bI_56))))))))
theorem c_try_1 (n : Int) (F : Nat) (h0 : 0 ≤ n) (h1 : n ≤ 1048576) (hF : F ≤ 536870912) (st : zy7) : zq7 prog 143 [.int .i64 n, .pptr (.int .i64 (F : Int))] st (fun r st' => r = (vr (n + (F : Int))).av ∧ st' = st) := by
 refine zq7.done ?_
 refine wF [1000000] 2 func143 ntmps143 rfl rfl ?_
 intro _
 have hw := wrap64 (n := n + (F : Int)) (by omega) (by omega)
 simp -implicitDefEqProofs only [zy4, hw, Tm.av_agg, Tm.av_width, Tm.av_store, Tm.av_junk, Tm.av_cells, Nat.le_refl, take_all (Tm.av_cells _), agg_cells (Tm.av_agg _), evF, ↓evZ, implies_true, seval, tf_T3_143]
 intro b3 h3
 refine (c_variable _ _).to ?_
 simp -implicitDefEqProofs only [zy4, hw, Tm.av_agg, Tm.av_width, Tm.av_store, Tm.av_junk, Tm.av_cells, Nat.le_refl, take_all (Tm.av_cells _), agg_cells (Tm.av_agg _), evF, ↓evZ, implies_true, seval, tf_T3_143]
 exact ⟨by simp only [soft_agg, soft_tup, soft_int, soft_bool, soft_str, soft_slice, soft_fslice, soft_ptr, soft_pptr, soft_map, soft_mslice, Tm.soft, List.map_cons, List.map_nil], (Drops.refl _).upd h3⟩
theorem c_shift {F : Nat} (hF : F ≤ 536870912) (t : Tm) (h : OkX 26 t) (st : zy7) : zq7 prog 144 [t.av, .func 143 [.pptr (.int .i64 (F : Int))]] st (fun r st' => r = (shf F t).av ∧ st' = st) :=
 c_mapVars (fun v => vr (v + (F : Int))) _ _ rfl t st h.1.small fun n hn s => c_try_1 n F (h.1.2.2 n hn).1 (by have := (h.1.2.2 n hn).2; omega) hF s
theorem glAv_fin {b : Nat} {L : List AV} (l : List IG) : (glAv l).fin b L = glAv l := by
 cases l with
 | nil => rw [glAv]; unfold AV.fin; split <;> rfl
 | cons g l => obtain ⟨⟨k, n, s, ts⟩, cut, up⟩ := g; rw [glAv_cons]; exact fin_pptr
abbrev tf_T3_119 := zi tI_3 (zi zI_3 (zi underlying3 (zi tI_4 (zi zI_4 (zi underlying4 (zi tI_28 (zi zI_28 (zi eI_28 (zi eB_28 (zi eZ_28 (zi underlying28 (zi tI_29 (zi zI_29 (zi eI_29 (zi eB_29 (zi eZ_29 (zi underlying29 (zi tI_56 (zi zI_56 (zi fI_56_0 (zi fI_56_1 (zi fI_56_2 (zi fI_56_3 (zi bI_56 (zi tI_58 (zi zI_58 (zi fI_58_0 (zi fI_58_1 (zi bI_58 (zi tI_66 (zi zI_66 (zi eI_66 (zi eB_66 (zi eZ_66 (zi underlying66 (zi tI_107 (zi zI_107 (zi tI_123 (zi zI_123 (zi tI_125 (zi zI_125 (zi tI_126 (zi zI_126 (zi eI_126 (zi eB_126 (zi eZ_126 (zi underlying126 (zi tI_127 (zi zI_127 (zi eI_127 (zi eB_127 (zi eZ_127 (zi underlying127 (zi tI_129 (zi zI_129 (zi fI_129_0 (zi fI_129_1 (zi fI_129_2 (zi fI_129_3 (zi fI_129_4 (zi fI_129_5 (zi fI_129_6 (zi fI_129_7 (zi fI_129_8 (zi fI_129_9 (zi fI_129_10 (zi fI_129_11 (zi bI_129 (zi tI_143 (zi zI_143 (zi fI_143_0 (zi fI_143_1 (zi bI_143 (zi tI_144 (zi zI_144 (zi fI_144_0 (zi fI_144_1 (zi bI_144 (zi tI_150 (zi zI_150 (zi fI_150_0 (zi fI_150_1 (zi fI_150_2 (zi bI_150 (zi tI_158 (zi zI_158 (zi fI_158_0 (zi fI_158_1 (zi fI_158_2 (zi fI_158_3 (zi fI_158_4 (zi fI_158_5 bI_158))))))))))))))))))))))))))))))))))))))))))))))))))))))))))))))))))))))))))))))))))))))))))))
set_option maxHeartbeats 2000000 in
theorem c_try {p : List Cl} (hp : ∀ c ∈ p, ClX c ∧ c.2.length ≤ 6) {M : Nat} (hM : M ≤ 268435456) {st0 st : zy7} {S c m : Nat} {qt qc qn : AV} {q : List Tm} {idx : Bool} {fuel used mx : Int} {nd : List AV} {i : IS} (h : SrA st0 st S c m qt qc qn p q idx fuel used mx nd i)
 (goal : Tm) (at' : Nat) (rest : List IG) (list : List Nat) (hg : IsGood i.σ) (ho : AllS (OkX i.fresh) i.σ) (hgo : OkX i.fresh goal) (hl : ∀ x ∈ list, x < p.length) (hll : list.length ≤ 1048576) (ha : at' < i.nn) (hX : IX p M i) (hMl : i.fresh + 26 * lsum i.chs + 26 * list.length ≤ M) (hch : i.chs.length ≤ 524288) (hnn : i.nn ≤ 524288) :
 zq7 prog 119 [.ptr S 0, goal.av, .int .i64 (at' : Int), .slice (list.map nv), glAv rest] st (fun r st' => r = .bool (iTry p goal at' rest list i).1 ∧ ∃ qt' qc' mx' nd', SrA st0 st' S c m qt' qc' qn p q idx fuel used mx' nd' (iTry p goal at' rest list i).2) := by
 obtain ⟨bN, rfl⟩ := h.nodes ha
 obtain ⟨gk, gn, gs', gts⟩ := goal
 obtain ⟨g1, g2, g3, g4, g5, g6⟩ := glAv_facts rest
 generalize hT : iTry p (.mk gk gn gs' gts) at' rest list i = T
 simp only [Tm.av_mk]
 have hun : prog.underlying 66 = some (.slice 3) := by kernel_rfl
 have hcell : st S = some (.cells [.ptr c 0, .slice (p.map clAv), .slice (q.map Tm.av), .bool idx, .bool false, .int .i64 fuel, .int .i64 used, .int .i64 i.fresh, glAv i.goals, qc, .mslice bN 0 nd.length 6, .int .i64 mx]) := h.cell
 have hcc := h.sto.sub.cells
 have htl := h.sto.trailLen (P := prog) hun
 obtain ⟨t1, t2, t3, t4, t5⟩ := h.sto.shape
 refine zq7.dropS ?_
 refine wF [1000000] 5 func119 ntmps119 rfl rfl ?_
 intro _
 simp -implicitDefEqProofs only [zy4, List.length_map, hcell, hcc, htl, g1, g2, g3, g4, g5, t1, t2, t4, t5, evF, ↓evZ, implies_true, seval, tf_T3_119]
 refine zy5 (σ := zy7 × AV) [1000000] [0, 2, 3, 4, 6, 11, 28, 29] list (fun k s => SrA st0 s.1 S c m s.2 qc (.mslice bN 0 nd.length 6) p q idx fuel used mx nd { i with fresh := i.fresh + 26 * k } ∧ iTry p (.mk gk gn gs' gts) at' rest (list.drop k) { i with fresh := i.fresh + 26 * k } = T)
  (fun k s => [(10, .bool false), (30, .int .i64 k)]) (fun k s => s.1) (by decide +kernel) ⟨(st, qt), ⟨h, hT⟩, zx7.mk (by simp -implicitDefEqProofs only [zy4, List.length_map, hcell, hcc, htl, g1, g2, g3, g4, g5, t1, t2, t4, t5, evF, ↓evZ, implies_true, seval, tf_T3_119])⟩ (fun k x s hx hlt hlt' hdr hinv => ?_) (fun s hge hinv => ?_)
 case refine_2 =>
  simp -implicitDefEqProofs only [hge, zy4, List.length_map, hcell, hcc, htl, g1, g2, g3, g4, g5, t1, t2, t4, t5, evF, ↓evZ, implies_true, seval, tf_T3_119]
  obtain ⟨hi, he⟩ := hinv
  rw [List.drop_length] at he
  unfold iTry at he
  subst he
  exact ⟨s.1, Drops.refl _, rfl, _, _, _, _, hi⟩
 obtain ⟨st, qt⟩ := s
 obtain ⟨h, hT⟩ := hinv
 simp only at h hT
 obtain ⟨t1, t2, t3, t4, t5⟩ := h.sto.shape
 obtain ⟨n1, n2, n3, n4, n5⟩ := h.acC.shape
 obtain ⟨m1, m2, m3, m4, m5⟩ := h.acN.shape
 obtain ⟨l1, l2, l3, l4, l5, l6⟩ := glAv_facts i.goals
 have hxl := hl x (List.mem_of_getElem? hx)
 obtain ⟨cl, hcx⟩ : ∃ cl, p[x]? = some cl := ⟨_, List.getElem?_eq_getElem hxl⟩
 obtain ⟨hclx, hcl6⟩ := hp cl (List.mem_of_getElem? hcx)
 rw [hdr, iTry.eq_def] at hT
 simp only [hcx] at hT
 have hat : aIndexAddr prog 66 (.slice (list.map nv)) (.int .i64 (k : Int)) = some (.pptr (.int .i64 (x : Int))) := ev_at (av := nv) eI_66 hx rfl
 have hatc := ev_at (av := clAv) (P := prog) eI_28 hcx (clAv_width cl)
 have hw := wrap64 (n := (k : Int) + 1) (by omega) (by omega)
 generalize hF : i.fresh + 26 * k = F at *
 have hFM : F + 26 ≤ M := by have := lsum_take i.chs 0; omega
 have hw26 := wrap64 (n := (F : Int) + 26) (by omega) (by omega)
 have hcell : st S = some (.cells [.ptr c 0, .slice (p.map clAv), .slice (q.map Tm.av), .bool idx, .bool false, .int .i64 fuel, .int .i64 used, .int .i64 F, glAv i.goals, qc, .mslice bN 0 nd.length 6, .int .i64 mx]) := h.cell
 obtain ⟨⟨ck, cn, cs', cts⟩, bd⟩ := cl
 rw [clAv_mk] at hatc
 simp -implicitDefEqProofs only [hlt', zy4, List.length_map, hcell, hat, hatc, hw, hw26, g1, g2, g3, g4, g5, t1, t2, t4, t5, n1, n2, n4, n5, m1, m2, m4, m5, l1, l2, l4, l5, zy7.upd_same, evF, ↓evZ, implies_true, seval, tf_T3_119]
 have h2 := h.put (gl := i.goals) (F := F + 26) (fuel' := fuel) (used' := used) (mx' := mx) (cs := [.ptr c 0, .slice (p.map clAv), .slice (q.map Tm.av), .bool idx, .bool false, .int .i64 fuel, .int .i64 used, .int .i64 ((F : Int) + 26), glAv i.goals, qc, .mslice bN 0 nd.length 6, .int .i64 mx]) rfl
 generalize st.upd S (.cells [.ptr c 0, .slice (p.map clAv), .slice (q.map Tm.av), .bool idx, .bool false, .int .i64 fuel, .int .i64 used, .int .i64 ((F : Int) + 26), glAv i.goals, qc, .mslice bN 0 nd.length 6, .int .i64 mx]) = V at *
 simp only at h2
 have hcellV : V S = some (.cells [.ptr c 0, .slice (p.map clAv), .slice (q.map Tm.av), .bool idx, .bool false, .int .i64 fuel, .int .i64 used, .int .i64 ((F : Int) + 26), glAv i.goals, qc, .mslice bN 0 nd.length 6, .int .i64 mx]) := h2.cell
 refine wX [(0, 1), (1, 1), (2, 1), (3, 1), (4, 1), (5, 1), (6, 1), (7, 1), (8, 1), (9, 1), (10, 1), (11, 1), (12, 1), (13, 1), (14, 0), (15, 0), (16, 1)] [0, 1, 2, 3, 4, 5, 6, 7, 8, 9, 10, 11, 12, 13, 16] (one S (.cells [.ptr c 0, .slice (p.map clAv), .slice (q.map Tm.av), .bool idx, .bool false, .int .i64 fuel, .int .i64 used, .int .i64 ((F : Int) + 26), glAv i.goals, qc, .mslice bN 0 nd.length 6, .int .i64 mx])) mixed rfl (ext_one hcellV) ?_
 simp -implicitDefEqProofs only [one_same, zy4, List.length_map, hcell, hat, hatc, hw, hw26, g1, g2, g3, g4, g5, t1, t2, t4, t5, n1, n2, n4, n5, m1, m2, m4, m5, l1, l2, l4, l5, zy7.upd_same, evF, ↓evZ, implies_true, seval, tf_T3_119]
 have hsh := fun st => c_shift (F := F) (by omega) (.mk ck cn cs' cts) hclx.head st
 have hhd : OkX ((F + 26 : Nat) : Int) (shf F (.mk ck cn cs' cts)) := (hclx.shf F (.mk ck cn cs' cts) (by simp)).mono (by have := hclx.fr.1; omega)
 have htr := h2.sto
 obtain ⟨r, σ', add, U⟩ := uniG_of (N := F + 26) hg (fun n u e => (ho n u e).mono (by omega)) (hgo.mono (by omega)) hhd
 have htl : i.tr.length ≤ i.fresh := hX.trl
 have hun := c_unifyG (N := F + 26) hg (fun n u e => (ho n u e).mono (by omega)) (.mk gk gn gs' gts) (shf F (.mk ck cn cs' cts)) (hgo.mono (by omega)) hhd c m qt i.tr V h2.sto (by omega)
 rw [U.eq] at hT hun
 simp only at hT hun
 have hout := U.outEq
 have hso := U.sol
 clear U
 generalize hy : shf F (.mk ck cn cs' cts) = y at *
 obtain ⟨yk, yn, ys, yt⟩ := y
 simp only [Tm.av_mk] at hsh hun ⊢
 refine (hsh _).to ?_
 simp -implicitDefEqProofs only [one_same, zy4, List.length_map, hcell, hat, hatc, hw, hw26, g1, g2, g3, g4, g5, t1, t2, t4, t5, n1, n2, n4, n5, m1, m2, m4, m5, l1, l2, l4, l5, zy7.upd_same, evF, ↓evZ, implies_true, seval, tf_T3_119]
 refine ⟨ext_one hcellV, ?_⟩
 refine hun.mono ?_
 rintro _ s2 ⟨rfl, hP⟩
 obtain ⟨qt2, h3⟩ := h2.post hP
 have hcell3 : s2 S = some (.cells [.ptr c 0, .slice (p.map clAv), .slice (q.map Tm.av), .bool idx, .bool false, .int .i64 fuel, .int .i64 used, .int .i64 ((F : Int) + 26), glAv i.goals, qc, .mslice bN 0 nd.length 6, .int .i64 mx]) := h3.cell
 simp -implicitDefEqProofs only [one_same, zy4, List.length_map, hcell3, hat, hatc, hw, hw26, g1, g2, g3, g4, g5, t1, t2, t4, t5, n1, n2, n4, n5, m1, m2, m4, m5, l1, l2, l4, l5, zy7.upd_same, evF, ↓evZ, implies_true, seval, tf_T3_119]
 refine ⟨ext_one hcell3, ?_⟩
 refine zq4 (fun hr => ?_) (fun hr => ?_)
 · have hr' : r = false := by simpa using hr
   rw [if_neg (by rw [hr']; simp)] at hT
   simp -implicitDefEqProofs only [zy4, List.length_map, hcell3, hat, hatc, hw, hw26, g1, g2, g3, g4, g5, t1, t2, t4, t5, n1, n2, n4, n5, m1, m2, m4, m5, l1, l2, l4, l5, zy7.upd_same, evF, ↓evZ, implies_true, seval, tf_T3_119]
   have hud := c_undoG σ' (i.tr ++ add) i.tr.length (by simp) c m qt2 s2 h3.sto (by
    have := h3.sto
    have : add.length ≤ F + 26 := nodup_VN hso.nodup hso.inN
    rw [List.length_append]; omega)
   refine hud.mono ?_
   rintro _ s4 ⟨rfl, qt4, hS4, hb4, hf4⟩
   simp -implicitDefEqProofs only [zy4, List.length_map, hcell3, hat, hatc, hw, hw26, g1, g2, g3, g4, g5, t1, t2, t4, t5, n1, n2, n4, n5, m1, m2, m4, m5, l1, l2, l4, l5, zy7.upd_same, evF, ↓evZ, implies_true, seval, tf_T3_119]
   have h5 := h3.turn hS4 (fun b o hb e1 e2 _ => hf4 b o hb e1 e2) (fun b hb => .inl (hb4 b hb))
   simp only [List.drop_left, List.take_left, hout] at h5
   refine ⟨(s4, qt4), ⟨?_, ?_⟩, zx7.mk (by simp -implicitDefEqProofs only [hw, zy4, List.length_map, hcell3, hat, hatc, hw, hw26, g1, g2, g3, g4, g5, t1, t2, t4, t5, n1, n2, n4, n5, m1, m2, m4, m5, l1, l2, l4, l5, zy7.upd_same, evF, ↓evZ, implies_true, seval, tf_T3_119])⟩
   · rw [show i.fresh + 26 * (k + 1) = F + 26 by omega]; exact h5
   · rw [show i.fresh + 26 * (k + 1) = F + 26 by omega]; exact hT
 have hr' : r = true := by simpa using hr
 have hndl : nd.length = i.nn := h3.ndl
 rw [if_pos hr'] at hT
 have hunC : prog.underlying 126 = some (.slice 158) := by kernel_rfl
 have hunN : prog.underlying 127 = some (.slice 150) := by kernel_rfl
 have hlC := h3.acC.len hunC
 have hlN := h3.acN.len hunN
 rw [List.length_map] at hlC
 rw [h3.ndl] at hlN
 simp only at hlC hlN
 have hatN := held_at (P := prog) (b := bN) (w := 6) (i := at') eI_127 (len := nd.length) (by rw [h3.ndl]; exact ha)
 simp -implicitDefEqProofs only [zy4, List.length_map, hcell3, hlC, hlN, hat, hatc, hw, hw26, g1, g2, g3, g4, g5, n1, n2, n4, n5, m1, m2, m4, m5, zy7.upd_same, evF, ↓evZ, implies_true, seval, tf_T3_119]
 refine zq4 (fun h7 => ?_) (fun h7 => ?_)
 · have h' : k + 1 < list.length := by simp at h7; omega
   have hdn : list.drop (k + 1) ≠ [] := by intro e; have := congrArg List.length e; simp at this; omega
   rw [if_neg hdn] at hT
   have hsl := fun (φ : AF) (d : Nat) (h : φ d = .int .i64 ((k : Int) + 1)) => slice_nv h' h
   refine wX [(0, 1), (1, 1), (2, 1), (3, 1), (4, 1), (5, 1), (6, 1), (7, 1), (8, 1), (9, 1), (10, 1), (11, 1), (12, 1), (13, 1), (14, 1), (15, 1), (16, 1), (17, 1), (18, 1), (19, 1), (20, 0), (21, 1), (22, 1), (23, 2)] [0, 1, 2, 3, 4, 5, 6, 7, 8, 9, 10, 11, 12, 13, 14, 15, 16, 17, 18, 19, 21, 22] (one S (.cells [.ptr c 0, .slice (p.map clAv), .slice (q.map Tm.av), .bool idx, .bool false, .int .i64 fuel, .int .i64 used, .int .i64 ((F : Int) + 26), glAv i.goals, qc, .mslice bN 0 nd.length 6, .int .i64 mx])) mixed rfl (ext_one hcell3) ?_
   simp -implicitDefEqProofs only [zy4, List.length_map, hcell3, hlC, hlN, hsl, hat, hatc, hw, hw26, g1, g2, g3, g4, g5, n1, n2, n4, n5, m1, m2, m4, m5, zy7.upd_same, one_same, evF, ↓evZ, implies_true, seval, tf_T3_119]
   refine AccW.append eI_126 eB_126 eZ_126 rfl (by decide) h3.acC rfl (icAv_store ⟨.mk gk gn gs' gts, at', rest, list.drop (k + 1), i.tr.length, nd.length⟩) (by rw [List.length_map]; simp only; omega) (fun qc5 s5 hacc hf hn => ?_)
   have hch5 : (i.chs.map icAv) ++ [icAv ⟨.mk gk gn gs' gts, at', rest, list.drop (k + 1), i.tr.length, nd.length⟩] = (i.chs ++ [(⟨.mk gk gn gs' gts, at', rest, list.drop (k + 1), i.tr.length, nd.length⟩ : IC)]).map icAv := by simp
   have hacc := hch5 ▸ hacc
   obtain ⟨c1, c2, c3, c4, c5⟩ := hacc.shape
   have hS5 : s5 S = s2 S := hf S h3.parts.2.2.2.2.1 (fun hb => by
    rcases hn S hb with h' | h'
    · exact h3.parts.2.2.2.2.1 h'
    · rw [hcell3] at h'; cases h')
   have hcell5' := hS5.trans hcell3
   have hext := ext_one hcell5'
   simp -implicitDefEqProofs only [zy4, List.length_map, hcell5', hlC, hlN, hsl, hat, hatc, hw, hw26, g1, g2, g3, g4, g5, c1, c2, c4, c5, n1, n2, n4, n5, m1, m2, m4, m5, zy7.upd_same, one_same, evF, ↓evZ, implies_true, seval, tf_T3_119]
   refine ⟨hext, ?_⟩
   have h5 := h3.pushC hacc hf hn (cs := [.ptr c 0, .slice (p.map clAv), .slice (q.map Tm.av), .bool idx, .bool false, .int .i64 fuel, .int .i64 used, .int .i64 ((F : Int) + 26), glAv i.goals, qc5, .mslice bN 0 nd.length 6, .int .i64 mx]) rfl
   generalize s5.upd S (.cells [.ptr c 0, .slice (p.map clAv), .slice (q.map Tm.av), .bool idx, .bool false, .int .i64 fuel, .int .i64 used, .int .i64 ((F : Int) + 26), glAv i.goals, qc5, .mslice bN 0 nd.length 6, .int .i64 mx]) = V5 at *
   rw [show (⟨.mk gk gn gs' gts, at', rest, list.drop (k + 1), i.tr.length, nd.length⟩ : IC) = ⟨.mk gk gn gs' gts, at', rest, list.drop (k + 1), i.tr.length, i.nn⟩ by rw [hndl]] at h5
   obtain ⟨csN, hbN, hcN⟩ := h5.nodeAt
   obtain ⟨c1, c2, c3, c4, c5⟩ := (h5).acC.shape
   have hSN : S ≠ bN := fun e => (h5).parts.2.2.2.2.2.1 (by rw [e]; simp [ownB])
   have hcell5 := h5.cell
   simp only [srC] at hcell5
   rw [show ((F + 26 : Nat) : Int) = (F : Int) + 26 from rfl] at hcell5
   simp -implicitDefEqProofs only [zy4, List.length_map, hcell5, hbN, hSN, hatN, hatc, hw, g1, g2, g3, g4, g5, c1, c2, c4, c5, n1, n2, n4, n5, m1, m2, m4, m5, zy7.upd_same, evF, ↓evZ, implies_true, seval, tf_T3_119]
   refine ⟨by omega, ?_⟩
   obtain ⟨nd6, h6⟩ := (h5).setN (x := .int .i64 (x : Int)) (k := at' * 6 + 5) rfl hbN (by omega)
   have hne6 := h6.ndl
   simp only at hne6
   rw [show zy4 csN (at' * 6 + 5) [.int .i64 (x : Int)] = List.take (at' * 6 + 5) csN ++ [AV.int IntKind.i64 (x : Int)] ++ List.drop (at' * 6 + 5 + 1) csN from rfl] at h6
   generalize zy7.upd _ bN (.cells (List.take (at' * 6 + 5) csN ++ [AV.int IntKind.i64 (x : Int)] ++ List.drop (at' * 6 + 5 + 1) csN)) = V6 at *
   have hcell6 := h6.cell
   simp only [srC] at hcell6
   rw [show ((F + 26 : Nat) : Int) = (F : Int) + 26 from rfl] at hcell6
   refine zq6 (σ := Unit) [1000000] [0, 2, 3, 4, 6, 10, 11, 12, 13, 14, 15, 16, 28, 29, 30, 31, 32, 33, 34, 35, 36, 37, 38, 39, 40, 41, 42, 43, 44, 45, 46, 47, 48, 49, 50, 51, 52, 53, 54, 55, 56, 57, 58, 59, 60, 61, 62, 63, 64, 65, 66, 67, 68, 70, 71, 72, 73, 74, 75, 76, 77, 78, 79, 80, 81, 82, 83, 84, 85, 86, 87, 88, 89, 90, 91, 92, 93, 94, 95, 96, 97, 98, 99, 100, 101, 102, 103, 104, 105, 106, 107, 108, 109, 110, 111, 112, 113, 114, 115, 116, 117, 118, 119] bd 4 17 (fun j _ => ((bd.take j).map (shf F)).map Tm.av) (fun _ _ => True) (fun j _ => [(120, .int .i64 j)]) (fun _ _ => V6) (fun j _ _ e he => by simp only [List.mem_map] at he; obtain ⟨t, _, rfl⟩ := he; exact ⟨Tm.av_junk _, Tm.av_width _⟩) (by decide +kernel) ⟨(), 0, trivial, fun h => absurd rfl h, zx7.mk (by simp -implicitDefEqProofs only [accV_nil, accS_nil, List.take_zero, List.map_nil, zy4, List.length_map, hcell6, hatN, hatc, hw, g1, g2, g3, g4, g5, c1, c2, c4, c5, n1, n2, n4, n5, m1, m2, m4, m5, zy7.upd_same, evF, ↓evZ, implies_true, seval, tf_T3_119])⟩ (fun j y5 _ b5 hx5 hlt5 hlt5' hdr5 hinv5 hb5 => ?_) (fun _ b5 hge5 hinv5 => ?_)
   · have hw5 := wrap64 (n := (j : Int) + 1) (by simp only at hcl6; omega) (by simp only at hcl6; omega)
     have hat5 := ev_at (av := Tm.av) (P := prog) eI_29 hx5 (Tm.av_width y5)
     have hlen5 : (((bd.take j).map (shf F)).map Tm.av).length = j := by simp only [List.length_map, List.length_take]; omega
     have hyb := hclx.body y5 (List.mem_of_getElem? hx5)
     simp -implicitDefEqProofs only [hlt5', zy4, List.length_map, hcell6, hatN, hat5, hw, g1, g2, g3, g4, g5, Tm.av_agg, Tm.av_width, Tm.av_store, Tm.av_junk, zy7.upd_same, evF, ↓evZ, implies_true, seval, tf_T3_119]
     refine (c_shift (F := F) (by omega) y5 hyb.1 _).to ?_
     simp -implicitDefEqProofs only [zy4, List.length_map, hcell6, hatN, hat5, hw, g1, g2, g3, g4, g5, Tm.av_agg, Tm.av_width, Tm.av_store, Tm.av_junk, zy7.upd_same, evF, ↓evZ, implies_true, seval, tf_T3_119]
     refine acc_append eI_29 eB_29 eZ_29 rfl rfl (by intro e he; simp only [List.mem_cons, List.not_mem_nil, or_false] at he; subst he; exact ⟨Tm.av_width _, Tm.av_store _⟩) (tm_widths _) hb5 (by simp only [hlen5, List.length_cons, List.length_nil]; simp only at hcl6; omega) (by simp only [hlen5, List.length_cons, List.length_nil]; simp only at hcl6; omega) (fun b' hb' => ?_)
     rw [show (((bd.take j).map (shf F)).map Tm.av) ++ [(shf F y5).av] = ((bd.take (j + 1)).map (shf F)).map Tm.av by rw [List.take_add_one, hx5]; simp] at hb' ⊢
     simp -implicitDefEqProofs only [zy4, List.length_map, hcell6, hatN, hat5, hw, g1, g2, g3, g4, g5, Tm.av_agg, Tm.av_width, Tm.av_store, Tm.av_junk, zy7.upd_same, evF, ↓evZ, implies_true, seval, tf_T3_119]
     exact ⟨(), b', hb', zx7.mk (by simp -implicitDefEqProofs only [hw5, zy4, List.length_map, hcell6, hatN, hat5, hw, g1, g2, g3, g4, g5, Tm.av_agg, Tm.av_width, Tm.av_store, Tm.av_junk, zy7.upd_same, evF, ↓evZ, implies_true, seval, tf_T3_119])⟩
   · have hput := fun st => c_put (bd.map (shf F)) i.chs.length at' rest (by simp only [List.length_map]; simp only at hcl6; omega) st
     simp -implicitDefEqProofs only [hge5, fin_agg, fin_tup, fin_int, fin_bool, fin_str, fin_slice, fin_fslice, fin_pptr, fin_ptr, fin_func, fin_map, fin_undef, fin_accV, tm_fin, List.take_length, glAv_fin, zy4, List.length_map, hcell6, hatN, hatc, hw, g1, g2, g3, g4, g5, c1, c2, c4, c5, n1, n2, n4, n5, m1, m2, m4, m5, zy7.upd_same, evF, ↓evZ, implies_true, seval, tf_T3_119]
     refine (hput _).to ?_
     have h7 := h6.put (gl := (bd.map (shf F)).map (fun t => (⟨t, i.chs.length, at'⟩ : IG)) ++ rest) (F := F + 26) (fuel' := fuel) (used' := used) (mx' := mx) rfl
     simp only [srC] at h7
     rw [show ((F + 26 : Nat) : Int) = (F : Int) + 26 from rfl] at h7
     have hgl : (bd.map (shf F)).map (fun t => (⟨t, i.chs.length, at'⟩ : IG)) ++ rest = bd.map (fun t => (⟨shf F t, i.chs.length, at'⟩ : IG)) ++ rest := by rw [List.map_map]; rfl
     rw [hgl] at h7 ⊢
     generalize bd.map (fun t => (⟨shf F t, i.chs.length, at'⟩ : IG)) ++ rest = NG at *
     obtain ⟨u1, u2, u3, u4, u5, u6⟩ := glAv_facts NG
     have hlC5 := h7.acC.len hunC
     simp only [List.length_map] at hlC5
     simp -implicitDefEqProofs only [zy4, List.length_map, hcell6, hlC5, u1, u2, u4, u5, c1, c2, c4, c5, zy7.upd_same, evF, ↓evZ, implies_true, seval, tf_T3_119]
     generalize zy7.upd V6 S _ = V7 at h7 ⊢
     have hcell7 := h7.cell
     simp only [srC] at hcell7
     rw [show ((F + 26 : Nat) : Int) = (F : Int) + 26 from rfl] at hcell7
     refine wX [(0, 1), (1, 1), (2, 1), (3, 1), (4, 1), (5, 1), (6, 1), (7, 1), (8, 1), (9, 1), (10, 0), (11, 1), (12, 1), (13, 2)] [0, 1, 2, 3, 4, 5, 6, 7, 8, 9, 11, 12] _ mixed rfl (ext_one hcell7) ?_
     simp -implicitDefEqProofs only [zy4, List.length_map, hcell7, hlC5, u1, u2, u4, u5, c1, c2, c4, c5, zy7.upd_same, one_same, evF, ↓evZ, implies_true, seval, tf_T3_119]
     refine ⟨ext_one hcell7, ?_⟩
     subst hT
     exact ⟨_, Drops.refl _, rfl, qt2, _, _, nd6, h7.put (gl := NG) (F := F + 26) rfl⟩
 · have h' : list.drop (k + 1) = [] := List.drop_eq_nil_of_le (by simp at h7; omega)
   rw [if_pos h'] at hT
   obtain ⟨csN, hbN, hcN⟩ := h3.nodeAt
   obtain ⟨c1, c2, c3, c4, c5⟩ := (h3).acC.shape
   have hSN : S ≠ bN := fun e => (h3).parts.2.2.2.2.2.1 (by rw [e]; simp [ownB])
   have hcell5 := h3.cell
   simp only [srC] at hcell5
   rw [show ((F + 26 : Nat) : Int) = (F : Int) + 26 from rfl] at hcell5
   simp -implicitDefEqProofs only [zy4, List.length_map, hcell5, hbN, hSN, hatN, hatc, hw, g1, g2, g3, g4, g5, c1, c2, c4, c5, n1, n2, n4, n5, m1, m2, m4, m5, zy7.upd_same, evF, ↓evZ, implies_true, seval, tf_T3_119]
   refine ⟨by omega, ?_⟩
   obtain ⟨nd6, h6⟩ := (h3).setN (x := .int .i64 (x : Int)) (k := at' * 6 + 5) rfl hbN (by omega)
   have hne6 := h6.ndl
   simp only at hne6
   rw [show zy4 csN (at' * 6 + 5) [.int .i64 (x : Int)] = List.take (at' * 6 + 5) csN ++ [AV.int IntKind.i64 (x : Int)] ++ List.drop (at' * 6 + 5 + 1) csN from rfl] at h6
   generalize zy7.upd _ bN (.cells (List.take (at' * 6 + 5) csN ++ [AV.int IntKind.i64 (x : Int)] ++ List.drop (at' * 6 + 5 + 1) csN)) = V6 at *
   have hcell6 := h6.cell
   simp only [srC] at hcell6
   rw [show ((F + 26 : Nat) : Int) = (F : Int) + 26 from rfl] at hcell6
   refine zq6 (σ := Unit) [1000000] [0, 2, 3, 4, 6, 10, 11, 12, 13, 14, 15, 16, 28, 29, 30, 31, 32, 33, 34, 35, 36, 37, 38, 39, 40, 41, 42, 43, 44, 45, 46, 47, 48, 49, 50, 51, 52, 53, 54, 55, 56, 57, 58, 59, 60, 61, 62, 63, 64, 65, 66, 67, 68, 70, 71, 72, 73, 74, 75, 76, 77, 78, 79, 80, 81, 82, 83, 84, 85, 86, 87, 88, 89, 90, 91, 92, 93, 94, 95, 96, 97, 98, 99, 100, 101, 102, 103, 104, 105, 106, 107, 108, 109, 110, 111, 112, 113, 114, 115, 116, 117, 118, 119] bd 4 17 (fun j _ => ((bd.take j).map (shf F)).map Tm.av) (fun _ _ => True) (fun j _ => [(120, .int .i64 j)]) (fun _ _ => V6) (fun j _ _ e he => by simp only [List.mem_map] at he; obtain ⟨t, _, rfl⟩ := he; exact ⟨Tm.av_junk _, Tm.av_width _⟩) (by decide +kernel) ⟨(), 0, trivial, fun h => absurd rfl h, zx7.mk (by simp -implicitDefEqProofs only [accV_nil, accS_nil, List.take_zero, List.map_nil, zy4, List.length_map, hcell6, hatN, hatc, hw, g1, g2, g3, g4, g5, c1, c2, c4, c5, n1, n2, n4, n5, m1, m2, m4, m5, zy7.upd_same, evF, ↓evZ, implies_true, seval, tf_T3_119])⟩ (fun j y5 _ b5 hx5 hlt5 hlt5' hdr5 hinv5 hb5 => ?_) (fun _ b5 hge5 hinv5 => ?_)
   · have hw5 := wrap64 (n := (j : Int) + 1) (by simp only at hcl6; omega) (by simp only at hcl6; omega)
     have hat5 := ev_at (av := Tm.av) (P := prog) eI_29 hx5 (Tm.av_width y5)
     have hlen5 : (((bd.take j).map (shf F)).map Tm.av).length = j := by simp only [List.length_map, List.length_take]; omega
     have hyb := hclx.body y5 (List.mem_of_getElem? hx5)
     simp -implicitDefEqProofs only [hlt5', zy4, List.length_map, hcell6, hatN, hat5, hw, g1, g2, g3, g4, g5, Tm.av_agg, Tm.av_width, Tm.av_store, Tm.av_junk, zy7.upd_same, evF, ↓evZ, implies_true, seval, tf_T3_119]
     refine (c_shift (F := F) (by omega) y5 hyb.1 _).to ?_
     simp -implicitDefEqProofs only [zy4, List.length_map, hcell6, hatN, hat5, hw, g1, g2, g3, g4, g5, Tm.av_agg, Tm.av_width, Tm.av_store, Tm.av_junk, zy7.upd_same, evF, ↓evZ, implies_true, seval, tf_T3_119]
     refine acc_append eI_29 eB_29 eZ_29 rfl rfl (by intro e he; simp only [List.mem_cons, List.not_mem_nil, or_false] at he; subst he; exact ⟨Tm.av_width _, Tm.av_store _⟩) (tm_widths _) hb5 (by simp only [hlen5, List.length_cons, List.length_nil]; simp only at hcl6; omega) (by simp only [hlen5, List.length_cons, List.length_nil]; simp only at hcl6; omega) (fun b' hb' => ?_)
     rw [show (((bd.take j).map (shf F)).map Tm.av) ++ [(shf F y5).av] = ((bd.take (j + 1)).map (shf F)).map Tm.av by rw [List.take_add_one, hx5]; simp] at hb' ⊢
     simp -implicitDefEqProofs only [zy4, List.length_map, hcell6, hatN, hat5, hw, g1, g2, g3, g4, g5, Tm.av_agg, Tm.av_width, Tm.av_store, Tm.av_junk, zy7.upd_same, evF, ↓evZ, implies_true, seval, tf_T3_119]
     exact ⟨(), b', hb', zx7.mk (by simp -implicitDefEqProofs only [hw5, zy4, List.length_map, hcell6, hatN, hat5, hw, g1, g2, g3, g4, g5, Tm.av_agg, Tm.av_width, Tm.av_store, Tm.av_junk, zy7.upd_same, evF, ↓evZ, implies_true, seval, tf_T3_119])⟩
   · have hput := fun st => c_put (bd.map (shf F)) i.chs.length at' rest (by simp only [List.length_map]; simp only at hcl6; omega) st
     simp -implicitDefEqProofs only [hge5, fin_agg, fin_tup, fin_int, fin_bool, fin_str, fin_slice, fin_fslice, fin_pptr, fin_ptr, fin_func, fin_map, fin_undef, fin_accV, tm_fin, List.take_length, glAv_fin, zy4, List.length_map, hcell6, hatN, hatc, hw, g1, g2, g3, g4, g5, c1, c2, c4, c5, n1, n2, n4, n5, m1, m2, m4, m5, zy7.upd_same, evF, ↓evZ, implies_true, seval, tf_T3_119]
     refine (hput _).to ?_
     have h7 := h6.put (gl := (bd.map (shf F)).map (fun t => (⟨t, i.chs.length, at'⟩ : IG)) ++ rest) (F := F + 26) (fuel' := fuel) (used' := used) (mx' := mx) rfl
     simp only [srC] at h7
     rw [show ((F + 26 : Nat) : Int) = (F : Int) + 26 from rfl] at h7
     have hgl : (bd.map (shf F)).map (fun t => (⟨t, i.chs.length, at'⟩ : IG)) ++ rest = bd.map (fun t => (⟨shf F t, i.chs.length, at'⟩ : IG)) ++ rest := by rw [List.map_map]; rfl
     rw [hgl] at h7 ⊢
     generalize bd.map (fun t => (⟨shf F t, i.chs.length, at'⟩ : IG)) ++ rest = NG at *
     obtain ⟨u1, u2, u3, u4, u5, u6⟩ := glAv_facts NG
     have hlC5 := h7.acC.len hunC
     simp only [List.length_map] at hlC5
     simp -implicitDefEqProofs only [zy4, List.length_map, hcell6, hlC5, u1, u2, u4, u5, c1, c2, c4, c5, zy7.upd_same, evF, ↓evZ, implies_true, seval, tf_T3_119]
     generalize zy7.upd V6 S _ = V7 at h7 ⊢
     have hcell7 := h7.cell
     simp only [srC] at hcell7
     rw [show ((F + 26 : Nat) : Int) = (F : Int) + 26 from rfl] at hcell7
     refine wX [(0, 1), (1, 1), (2, 1), (3, 1), (4, 1), (5, 1), (6, 1), (7, 1), (8, 1), (9, 1), (10, 0), (11, 1), (12, 1), (13, 2)] [0, 1, 2, 3, 4, 5, 6, 7, 8, 9, 11, 12] _ mixed rfl (ext_one hcell7) ?_
     simp -implicitDefEqProofs only [zy4, List.length_map, hcell7, hlC5, u1, u2, u4, u5, c1, c2, c4, c5, zy7.upd_same, one_same, evF, ↓evZ, implies_true, seval, tf_T3_119]
     refine ⟨ext_one hcell7, ?_⟩
     subst hT
     exact ⟨_, Drops.refl _, rfl, qt2, _, _, nd6, h7.put (gl := NG) (F := F + 26) rfl⟩
theorem iBack_eq (p : List Cl) (s : IS) : iBack p s.chs.length s = match s.chs.getLast? with
 | none => none
 | some c => if (iTry p c.goal c.node c.rest c.list (s.pop c)).1 = true then some (iTry p c.goal c.node c.rest c.list (s.pop c)).2 else iBack p (s.chs.length - 1) (iTry p c.goal c.node c.rest c.list (s.pop c)).2 := by
 obtain ⟨gl, σ, tr, chs, F, nn⟩ := s
 cases chs with
 | nil => rfl
 | cons c l => rw [List.length_cons, iBack]; rfl
structure BackI (p : List Cl) (M : Nat) (st0 : zy7) (S c m : Nat) (q : List Tm) (idx : Bool) (fuel used : Int) (T : Option IS) (st : zy7) (qt qc qn : AV) (mx : Int) (nd : List AV) (i : IS) (cs : List RC) : Prop where
 s : SrA st0 st S c m qt qc qn p q idx fuel used mx nd i
 r : ChR i.fresh cs i.chs i.σ i.tr
 x : IX p M i
 t : iBack p i.chs.length i = T
 n : i.chs.length ≤ 524288 ∧ i.nn ≤ 524288
def BackR (st0 st' : zy7) (S c m : Nat) (p : List Cl) (q : List Tm) (idx : Bool) (fuel used : Int) (r : AV) : Option IS → Prop
 | some i' => r = .int .i64 (-1) ∧ ∃ qt qc qn mx nd, SrA st0 st' S c m qt qc qn p q idx fuel used mx nd i'
 | none => r = .int .i64 0 ∧ ∃ qt qc qn mx nd i', SrA st0 st' S c m qt qc qn p q idx fuel used mx nd i'
abbrev tf_T4_103 := zi tI_3 (zi zI_3 (zi underlying3 (zi tI_56 (zi zI_56 (zi fI_56_0 (zi fI_56_1 (zi fI_56_2 (zi fI_56_3 (zi bI_56 (zi tI_66 (zi zI_66 (zi eI_66 (zi eB_66 (zi eZ_66 (zi underlying66 (zi tI_107 (zi zI_107 (zi tI_123 (zi zI_123 (zi tI_125 (zi zI_125 (zi tI_126 (zi zI_126 (zi eI_126 (zi eB_126 (zi eZ_126 (zi underlying126 (zi tI_127 (zi zI_127 (zi eI_127 (zi eB_127 (zi eZ_127 (zi underlying127 (zi tI_129 (zi zI_129 (zi fI_129_0 (zi fI_129_1 (zi fI_129_2 (zi fI_129_3 (zi fI_129_4 (zi fI_129_5 (zi fI_129_6 (zi fI_129_7 (zi fI_129_8 (zi fI_129_9 (zi fI_129_10 (zi fI_129_11 (zi bI_129 (zi tI_158 (zi zI_158 (zi fI_158_0 (zi fI_158_1 (zi fI_158_2 (zi fI_158_3 (zi fI_158_4 (zi fI_158_5 bI_158))))))))))))))))))))))))))))))))))))))))))))))))))))))))
set_option maxHeartbeats 2000000 in
theorem c_back {p : List Cl} (hp : ∀ c ∈ p, ClX c ∧ c.2.length ≤ 6) {M : Nat} (hM : M ≤ 16777216) {st0 : zy7} {S c m : Nat} {q : List Tm} {idx : Bool} {fuel used : Int} {T : Option IS} (st : zy7) (qt qc qn : AV) (mx : Int) (nd : List AV) (i : IS) (cs : List RC)
 (hI : BackI p M st0 S c m q idx fuel used T st qt qc qn mx nd i cs) :
 zq7 prog 103 [.ptr S 0] st (fun r st' => BackR st0 st' S c m p q idx fuel used r T) := by
 refine zq7.dropS ?_
 refine wF [1000000] 1 func103 ntmps103 rfl rfl ?_
 intro _
 simp -implicitDefEqProofs only [zy4, List.length_map, evF, ↓evZ, implies_true, seval, tf_T4_103]
 refine zw5 (σ := zy7 × AV × AV × AV × Int × List AV × IS × List RC) [1000000] [0] (fun x => BackI p M st0 S c m q idx fuel used T x.1 x.2.1 x.2.2.1 x.2.2.2.1 x.2.2.2.2.1 x.2.2.2.2.2.1 x.2.2.2.2.2.2.1 x.2.2.2.2.2.2.2) (fun x => [(2, .int .i64 0)]) (fun x => x.1) (fun x => x.2.2.2.2.2.2.1.chs.length) (by decide +kernel) ⟨(st, qt, qc, qn, mx, nd, i, cs), hI, zx7.mk (by simp -implicitDefEqProofs only [zy4, List.length_map, evF, ↓evZ, implies_true, seval, tf_T4_103])⟩ ?_
 clear hI
 rintro ⟨st, qt, qc, qn, mx, nd, i, cs⟩ ⟨hs, hr, hx, ht, hn1, hn2⟩
 simp only at hs hr hx ht hn1 hn2
 simp only
 obtain ⟨gl, τ, tr, ch, F, nn⟩ := i
 obtain ⟨t1, t2, t3, t4, t5⟩ := hs.sto.shape
 obtain ⟨n1, n2, n3, n4, n5⟩ := hs.acC.shape
 obtain ⟨m1, m2, m3, m4, m5⟩ := hs.acN.shape
 obtain ⟨l1, l2, l3, l4, l5, l6⟩ := glAv_facts gl
 have hunC : prog.underlying 126 = some (.slice 158) := by kernel_rfl
 have hlC := hs.acC.len hunC
 rw [List.length_map] at hlC
 simp only at hlC hr hx ht hn1 hn2
 have hcell := hs.cell
 simp only [srC] at hcell
 replace ht := (iBack_eq p ⟨gl, τ, tr, ch, F, nn⟩).symm.trans ht
 simp only at ht
 cases hr with
 | nil =>
  simp only [List.getLast?_nil] at ht
  subst ht
  simp only [List.length_nil] at hlC
  simp -implicitDefEqProofs only [zy4, List.length_map, hcell, hlC, t1, t2, t4, t5, n1, n2, n4, n5, m1, m2, m4, m5, l1, l2, l4, l5, zy7.upd_same, evE, ↓evZ2, ↓evZ3, ↓Int.cast_ofNat_Int, implies_true, zy2, aFn, List.contains, List.elem, zq3, zy1, zq2, sub, zx3, zw2, zw3, zy3, gd, zq1, zw0, zq0, zx0, zx2, zx1, zy0, zw1, List.range', ↓reduceIte, reduceCtorEq, Nat.reduceEqDiff, Nat.reduceAdd, Nat.reduceLeDiff, Nat.reduceMul, Nat.reduceLT, Nat.reduceBEq, Int.reduceEq, tf_T4_103]
  refine zq4 (fun h => absurd h (by decide)) (fun h => ?_)
  simp -implicitDefEqProofs only [zy4, List.length_map, hcell, hlC, t1, t2, t4, t5, n1, n2, n4, n5, m1, m2, m4, m5, l1, l2, l4, l5, zy7.upd_same, evF, ↓evZ, implies_true, seval, tf_T4_103]
  exact ⟨st, Drops.refl _, rfl, _, _, _, _, _, _, hs⟩
 | @snoc cs ds cR d _ _ C h1 h2 =>
  obtain ⟨hP, hMl, hnt, htn, htr, hli⟩ := hx.pop
  have e3 : (IS.pop ⟨gl, τ, tr, ds ++ [d], F, nn⟩ d) = ⟨gl, τ.out (tr.drop d.trail), tr.take d.trail, ds, F, d.taken⟩ := by simp only [IS.pop, List.dropLast_concat]
  simp only [List.getLast?_append, List.getLast?_singleton, Option.or_some, Option.some_or, e3] at ht
  obtain ⟨bC, csC, rfl, hbC, hlC2, htk⟩ := hs.acC.at (ic_widths _) (i := ds.length) (e := icAv d) (by simp)
  have hlm : ((ds ++ [d]).map icAv).length = ds.length + 1 := by simp
  rw [hlm] at hs hcell hlC
  have hSb : S ≠ bC := fun e => hs.parts.2.2.2.2.1 (by rw [e]; simp [ownB])
  have hdl : ds.length + 1 ≤ 524288 := by simp only [List.length_append, List.length_cons, List.length_nil] at hn1; omega
  have hw : IntKind.i64.wrap ((ds.length : Int) + 1 - 1) = (ds.length : Int) := by rw [wrap64 (by omega) (by omega)]; omega
  have hatC := held_at (P := prog) (b := bC) (w := 9) (i := ds.length) eI_126 (len := ds.length + 1) (by omega)
  have hcut := fun (φ : AF) (dd : Nat) (h : φ dd = .int .i64 (ds.length : Int)) => slice_hiW (b := bC) (n := ds.length + 1) (k := ds.length) eI_126 h (by omega)
  obtain ⟨⟨dk, dn, ds', dts⟩, dnode, drest, dlist, dtrail, dtaken⟩ := d
  rw [icAv_mk] at htk
  simp only at htn htr hnt hli hMl hP
  obtain ⟨g1, g2, g3, g4, g5, g6⟩ := glAv_facts drest
  have htk' : (csC.drop (ds.length * 9)).take 9 = [.int .i64 dk, .int .i64 dn, .str ds', .slice (dts.map Tm.av), .int .i64 (dnode : Int), glAv drest, .slice (dlist.map nv), .int .i64 (dtrail : Int), .int .i64 (dtaken : Int)] := htk
  simp -implicitDefEqProofs only [zy4, List.length_map, List.length_append, List.length_cons, List.length_nil, hcell, hlC, hbC, hSb, hlC2, htk', hatC, hcut, hw, t1, t2, t4, t5, n1, n2, n4, n5, m1, m2, m4, m5, l1, l2, l4, l5, g1, g2, g4, g5, zy7.upd_same, evF, ↓evZ, implies_true, seval, tf_T4_103]
  refine zq4 (fun h => ?_) (fun h => absurd h (by simp))
  simp -implicitDefEqProofs only [zy4, List.length_map, List.length_append, List.length_cons, List.length_nil, hcell, hlC, hbC, hSb, hlC2, htk', hatC, hcut, hw, t1, t2, t4, t5, n1, n2, n4, n5, m1, m2, m4, m5, l1, l2, l4, l5, g1, g2, g4, g5, zy7.upd_same, evF, ↓evZ, implies_true, seval, tf_T4_103]
  have hs2 := hs.cutC (k := ds.length) (gl := gl) (by simp only [List.length_append, List.length_cons, List.length_nil]; omega) (cs := srC c p q idx fuel used F (glAv gl) (.mslice bC 0 ds.length 9) qn mx) rfl
  simp only [List.take_left, srC] at hs2
  generalize zy7.upd st S _ = V at hs2 ⊢
  have hcellV := hs2.cell
  simp only [srC, cutQ] at hcellV hs2
  have htl := hs2.sto.trail
  refine wX [(0, 1), (1, 1), (2, 1), (3, 1), (4, 1), (5, 1), (6, 2)] [0, 1, 2, 3, 4, 5] _ mixed rfl (ext_one hcellV) ?_
  simp -implicitDefEqProofs only [zy4, List.length_map, hcellV, t1, t2, t4, t5, n1, n2, n4, n5, m1, m2, m4, m5, l1, l2, l4, l5, g1, g2, g4, g5, zy7.upd_same, one_same, evF, ↓evZ, implies_true, seval, tf_T4_103]
  refine (c_undoG τ tr dtrail htr c m qt V hs2.sto (by have := hx.trl; have := hx.phi; simp only at *; omega)).mono ?_
  rintro _ s4 ⟨rfl, qt4, hS4, hb4, hf4⟩
  have hs4 := hs2.turn hS4 (fun b o hb e1 e2 _ => hf4 b o hb e1 e2) (fun b hb => .inl (hb4 b hb))
  have hcell4 := hs4.cell
  simp only [srC] at hcell4
  obtain ⟨q1, q2, q3, q4, q5⟩ := hs4.sto.shape
  have hcutN := fun (φ : AF) (dd : Nat) (h : φ dd = .int .i64 (dtaken : Int)) => slice_accW eI_127 hs4.acN h (by rw [hs4.ndl]; exact htn)
  simp -implicitDefEqProofs only [zy4, List.length_map, hcell4, hcutN, q1, q2, q4, q5, n1, n2, n4, n5, m1, m2, m4, m5, l1, l2, l4, l5, g1, g2, g4, g5, zy7.upd_same, one_same, evF, ↓evZ, implies_true, seval, tf_T4_103]
  have hAN := hs4.acN.take (k := dtaken) (by rw [hs4.ndl]; exact htn) hs4.ndw
  obtain ⟨e1', e2', e3', e4', e5'⟩ := hAN.shape
  have hs6 := hs4.cutN (k := dtaken) htn rfl
  simp only [srC] at hs6
  obtain ⟨ρ, Sm, e1, hok, hG, e2⟩ := h1
  simp only at e1 e2
  have htry := c_try hp (show M ≤ 268435456 by omega) hs6 (.mk dk dn ds' dts) dnode drest dlist Sm.g2 Sm.o2 (e1 ▸ Sm.renX hok) hli (by omega) hnt hP hMl (by first | omega | (simp only; omega)) (by first | omega | (simp only; omega))
  simp only [Tm.av_mk] at htry
  have hsim := try_sim (fun c h => (hp c h).1) (nn := dtaken) (at' := dnode) (tr := tr.take dtrail) hok hG cR.left F gl Sm C
  rw [← e1, ← e2] at hsim
  refine wX [(0, 1), (1, 1), (2, 1), (3, 1), (4, 1), (5, 1), (6, 1), (7, 1), (8, 1), (9, 1), (10, 2)] [0, 1, 2, 3, 4, 5, 6, 7, 8, 9] _ mixed rfl (ext_one hcell4) ?_
  simp -implicitDefEqProofs only [zy4, List.length_map, hcell4, hcutN, e1', e2', e4', e5', q1, q2, q4, q5, n1, n2, n4, n5, m1, m2, m4, m5, l1, l2, l4, l5, g1, g2, g4, g5, zy7.upd_same, one_same, evF, ↓evZ, implies_true, seval, tf_T4_103]
  refine htry.mono ?_
  rintro _ s7 ⟨rfl, qt7, qc7, mx7, nd7, hs7⟩
  simp -implicitDefEqProofs only [zy4, List.length_map, hcell4, hcutN, e1', e2', e4', e5', q1, q2, q4, q5, n1, n2, n4, n5, m1, m2, m4, m5, l1, l2, l4, l5, g1, g2, g4, g5, zy7.upd_same, one_same, evF, ↓evZ, implies_true, seval, tf_T4_103]
  refine zq4 (fun h => ?_) (fun h => ?_)
  · simp -implicitDefEqProofs only [zy4, List.length_map, hcell4, hcutN, e1', e2', e4', e5', q1, q2, q4, q5, n1, n2, n4, n5, m1, m2, m4, m5, l1, l2, l4, l5, g1, g2, g4, g5, zy7.upd_same, one_same, evF, ↓evZ, implies_true, seval, tf_T4_103]
    rw [if_pos h] at ht
    subst ht
    exact ⟨s7, Drops.refl _, rfl, _, _, _, _, _, hs7⟩
  · rw [if_neg (by rw [h]; simp)] at ht
    cases hrt : rTry p cs cR.goal cR.rest cR.σ cR.N cR.left with
    | some s =>
     rw [e2, hrt] at hsim
     obtain ⟨i2, k1, _⟩ := hsim
     rw [← e2] at k1
     rw [k1] at h
     cases h
    | none =>
     rw [e2, hrt] at hsim
     obtain ⟨F', hF, k1⟩ := hsim
     rw [← e2] at k1
     have hX7 := iTry_X (fun c h => (hp c h).1) (rest := drest) dlist _ hli (at' := dnode) (by simp only; exact hnt) (by simp only; exact hMl) hP Sm.g2 Sm.o2 (e1 ▸ Sm.renX hok)
     rw [k1] at hs7 ht hX7
     simp -implicitDefEqProofs only [zy4, List.length_map, hcell4, hcutN, e1', e2', e4', e5', q1, q2, q4, q5, n1, n2, n4, n5, m1, m2, m4, m5, l1, l2, l4, l5, g1, g2, g4, g5, zy7.upd_same, one_same, evF, ↓evZ, implies_true, seval, tf_T4_103]
     refine ⟨(s7, qt7, qc7, _, mx7, nd7, ⟨gl, τ.out (tr.drop dtrail), tr.take dtrail, ds, F', dtaken⟩, cs), by simp only; omega, ⟨hs7, C.mono hF, hX7, ?_, by simp only; omega, by simp only; omega⟩, zx7.mk (by simp -implicitDefEqProofs only [zy4, List.length_map, hcell4, hcutN, e1', e2', e4', e5', q1, q2, q4, q5, n1, n2, n4, n5, m1, m2, m4, m5, l1, l2, l4, l5, g1, g2, g4, g5, zy7.upd_same, one_same, evF, ↓evZ, implies_true, seval, tf_T4_103])⟩
     simpa using ht
end Go.AW
