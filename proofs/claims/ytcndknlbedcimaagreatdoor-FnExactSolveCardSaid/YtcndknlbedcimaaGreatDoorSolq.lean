import Derived.Test.YtcndknlbedcimaaGreatDoorSolp
import Derived.Test.YtcndknlbedcimaaGreatDoorSolm
import Derived.Test.YtcndknlbedcimaaGreatDoorSoln
import Derived.Test.YtcndknlbedcimaaGreatDoorSolf
import Derived.Test.YtcndknlbedcimaaGreatDoorSolg
import Derived.Test.YtcndknlbedcimaaGreatDoorSoll
import Derived.Test.YtcndknlbedcimaaGreatDoorSolj
import Derived.Test.YtcndknlbedcimaaGreatDoorSoli

namespace Go.AW
open Go.Proofs.Tryz
set_option linter.unusedSimpArgs false
set_option linter.unusedVariables false
set_option maxRecDepth 100000
theorem slice_lo1 {φ : AF} {t : TypeId} {ag : Bool} {w : Nat} {y : Operand} {e : AV} {es : List AV} (hI : eI prog t = some (ag, w)) (h : φ.eval y = .int .i64 1) (hw : ∀ x ∈ es, x.width = w) : aSlice prog φ t (.slice (e :: es)) (some y) none none = some (.slice es) := by
 have hwo : widthOk (e :: es) 1 w = true := by
  unfold widthOk
  rw [List.getElem?_cons_succ]
  split
  · rename_i x hx
    simp [hw x (List.mem_of_getElem? hx)]
  · rfl
 unfold aSlice
 rw [if_neg (by simp [isF0])]
 simp only [aSlice0, hI]
 rw [if_neg (by simp)]
 simp only [aBound, h]
 rw [if_pos (by constructor <;> simp <;> omega)]
 simp [hwo]
abbrev tf_R7_145 := zi tI_3 (zi zI_3 underlying3)
theorem c_l6End (c : Int) (st : zy7) : zq7 prog 145 [.int .i64 c] st (fun r st' => r = .int .i64 (endC c) ∧ st' = st) := by
 refine zq7.done ?_
 refine zw6 [1000000] func145 ntmps145 rfl rfl (by kernel_rfl) (by decide +kernel) (by show 1 ≤ _; decide +kernel) ?_
 intro _
 simp -implicitDefEqProofs only [evF, ↓evZ, implies_true, seval, tf_R7_145]
 unfold endC
 refine zq4 (fun h => ?_) (fun h => ?_)
 · simp -implicitDefEqProofs only [evF, ↓evZ, implies_true, seval, tf_R7_145]
   have h' : c = 2 := by simpa using h
   exact ⟨by rw [if_pos h']; rfl, Drops.refl _⟩
 rw [if_neg (show ¬ c = 2 by simpa using h)]
 simp -implicitDefEqProofs only [evF, ↓evZ, implies_true, seval, tf_R7_145]
 refine zq4 (fun h => ?_) (fun h => ?_)
 · simp -implicitDefEqProofs only [evF, ↓evZ, implies_true, seval, tf_R7_145]
   have h' : c = 3 := by simpa using h
   exact ⟨by rw [if_pos h']; rfl, Drops.refl _⟩
 rw [if_neg (show ¬ c = 3 by simpa using h)]
 simp -implicitDefEqProofs only [evF, ↓evZ, implies_true, seval, tf_R7_145]
 refine zq4 (fun h => ?_) (fun h => ?_)
 · simp -implicitDefEqProofs only [evF, ↓evZ, implies_true, seval, tf_R7_145]
   have h' : c = 4 := by simpa using h
   exact ⟨by rw [if_pos h']; rfl, Drops.refl _⟩
 rw [if_neg (show ¬ c = 4 by simpa using h)]
 simp -implicitDefEqProofs only [evF, ↓evZ, implies_true, seval, tf_R7_145]
 exact ⟨rfl, Drops.refl _⟩
def StepR (x : RO) (r : AV) : Prop := match x with
 | .go s => r = .tup [rsAv s, .int .i64 (-1)]
 | .fail => ∃ l1 l2 l3, r = .tup [.agg [.slice l1, .slice l2, .slice l3], .int .i64 (-2)]
 | .stop e => 0 ≤ e ∧ ∃ l1 l2 l3, r = .tup [.agg [.slice l1, .slice l2, .slice l3], .int .i64 e]
abbrev tf_R7_92 := zi tI_2 (zi zI_2 (zi underlying2 (zi tI_3 (zi zI_3 (zi underlying3 (zi tI_4 (zi zI_4 (zi underlying4 (zi tI_9 (zi zI_9 (zi underlying9 (zi tI_29 (zi zI_29 (zi eI_29 (zi eB_29 (zi eZ_29 (zi underlying29 (zi tI_31 (zi zI_31 (zi eI_31 (zi eB_31 (zi eZ_31 (zi underlying31 (zi tI_42 (zi zI_42 (zi fI_42_0 (zi fI_42_1 (zi fI_42_2 (zi fI_42_3 (zi bI_42 (zi tI_58 (zi zI_58 (zi eI_58 (zi eB_58 (zi eZ_58 (zi underlying58 (zi tI_108 (zi zI_108 (zi eI_108 (zi eB_108 (zi eZ_108 (zi underlying108 (zi tI_109 (zi zI_109 (zi eI_109 (zi eB_109 (zi eZ_109 (zi underlying109 (zi tI_111 (zi zI_111 (zi fI_111_0 (zi fI_111_1 (zi fI_111_2 (zi bI_111 (zi tI_161 (zi zI_161 (zi fI_161_0 (zi fI_161_1 (zi bI_161 (zi tI_165 (zi zI_165 (zi fI_165_0 (zi fI_165_1 (zi fI_165_2 (zi fI_165_3 bI_165)))))))))))))))))))))))))))))))))))))))))))))))))))))))))))))))))
theorem c_l6Step {p : List Cl} (hp : ∀ c ∈ p, ClX c ∧ c.2.length ≤ 6) (hpl : p.length ≤ 1048576) {B : Nat} (hB : B + 26 ≤ 524288) (goals : List RG) (σ : Sub) (N : Nat) (chs : List RC) (g : RG) (rest : List RG) (hgs : goals = g :: rest) (h : RsOk p B ⟨goals, σ, N, chs⟩) (hK : RsK ⟨goals, σ, N, chs⟩) (st : zy7) :
 zq7 prog 92 [.slice (p.map clAv), .agg [.slice (goals.map rgAv), .slice (arrN N σ), .slice (chs.map rcAv)]] st (fun r st' => st' = st ∧ StepR (rStep p (fun _ l => l) ⟨goals, σ, N, chs⟩ g rest) r) := by
 subst hgs
 obtain ⟨hg, ho, hd, hgo, h0, hN, hgl, hcl, hch⟩ := h
 simp only at hg ho hd hgo h0 hN hgl hcl hch
 obtain ⟨hgx, hg3⟩ := hgo g (by simp)
 have hrest : ∀ x ∈ rest, OkX N x.t ∧ x.t.k = 3 := fun x hx => hgo x (by simp [hx])
 have hkp := hK.goals.2 g (by simp)
 simp only at hkp
 have hsm := c_l6Small hg ho g.t hgx
 have hyk : (g.t.mapv (rs σ)).k = 3 := by rw [Tm.mapv_k _ (by omega)]; exact hg3
 have hfo := fit_ok hg ho hgx
 generalize hR : rStep p (fun _ l => l) ⟨g :: rest, σ, N, chs⟩ g rest = R
 unfold rStep at hR
 dsimp only at hR
 obtain ⟨⟨gk, gn, gs', gts⟩, keep⟩ := g
 simp only at hgx hg3 hkp hsm hyk hfo
 dsimp only at hR
 generalize (Tm.mk gk gn gs' gts).mapv (rs σ) = y at *
 obtain ⟨yk, yn, ys, yts⟩ := y
 obtain rfl : yk = 3 := hyk
 have hat : aIndexAddr prog 108 (.slice ((⟨.mk gk gn gs' gts, keep⟩ :: rest).map rgAv)) (.int .i64 0) = some (.pptr (rgAv ⟨.mk gk gn gs' gts, keep⟩)) := ev_at (av := rgAv) (l := ⟨.mk gk gn gs' gts, keep⟩ :: rest) (i := 0) eI_108 rfl (rgAv_width _)
 have hs1 := fun (φ : AF) (y : Operand) (h : φ.eval y = .int .i64 1) => slice_lo1 (e := rgAv ⟨.mk gk gn gs' gts, keep⟩) (es := rest.map rgAv) eI_108 h (by intro e he; simp only [List.mem_map] at he; obtain ⟨t, _, rfl⟩ := he; exact rgAv_width t)
 rw [List.map_cons, rgAv_mk] at hat
 rw [rgAv_mk] at hs1
 rw [List.map_cons, rgAv_mk]
 simp only [Tm.av_mk] at hsm
 refine zq7.fin (zq7.dropS ?_)
 refine zw6 [1000000] func92 ntmps92 rfl rfl (by kernel_rfl) (by decide +kernel) (by show 2 ≤ _; decide +kernel) ?_
 intro _
 simp -implicitDefEqProofs only [zy4, List.length_map, List.length_cons, hat, hs1, evF, ↓evZ, implies_true, seval, tf_R7_92]
 intro b4 h4
 refine (hsm _).mono ?_
 rintro _ _ ⟨rfl, x, rfl, hx⟩
 generalize hfit : fitT (.mk 3 yn ys yts) = fit at *
 have fin0 : ∀ (o : AO) (r : AV) (x : RO), StepR x (r.fin 0 []) → ∃ s2, Drops (st.upd b4 o) s2 ∧ ∃ b l s0, s2 = accS s0 b l ∧ (l ≠ [] → s0 b = none) ∧ (∀ e ∈ l, e.isJunk = false) ∧ Even l ∧ s0 = st ∧ StepR x (r.fin b l) := fun o r x hr =>
  ⟨st, (Drops.refl _).upd h4, 0, [], st, rfl, by simp, by simp, ⟨0, by simp⟩, rfl, hr⟩
 simp -implicitDefEqProofs only [zy4, List.length_map, List.length_cons, hat, hs1, Tm.av_agg, Tm.av_width, Tm.av_store, Tm.av_junk, Tm.av_cells, take_all (Tm.av_cells x), agg_cells (Tm.av_agg x), Nat.le_refl, evF, ↓evZ, implies_true, seval, tf_R7_92]
 refine zq4 (fun h => ?_) (fun h => ?_)
 · have h' : fit = false := by simpa using h
   subst h'
   rw [if_pos rfl] at hR
   subst hR
   simp -implicitDefEqProofs only [zy4, List.length_map, List.length_cons, hat, hs1, Tm.av_agg, Tm.av_width, Tm.av_store, Tm.av_junk, Tm.av_cells, take_all (Tm.av_cells x), agg_cells (Tm.av_agg x), Nat.le_refl, evF, ↓evZ, implies_true, seval, tf_R7_92]
   exact fin0 _ _ _ ⟨by decide, _, _, _, by simp only [fin_agg, fin_tup, fin_int, fin_bool, fin_str, fin_slice, fin_fslice, fin_pptr, fin_ptr, fin_func, fin_map, fin_undef, fin_accV, tm_fin, List.map_cons, List.map_nil]; rfl⟩
 obtain rfl : fit = true := by simpa using h
 obtain rfl := hx rfl
 simp only [Tm.av_mk]
 have hyo := hfo rfl
 rw [if_neg (by simp)] at hR
 have hcut : ∀ st, zq7 prog 143 [.agg [.int .i64 3, .int .i64 yn, .str ys, .slice (yts.map Tm.av)]] st (fun r st' => r = .bool (cutT (.mk 3 yn ys yts)) ∧ st' = st) := fun st => by
  have := c_l4Cut 3 yn ys yts st
  rw [Tm.av_mk] at this
  exact this
 have hbi := fun st => c_spec_IsBuiltin ys (yts.length : Int) st
 have hfor := fun st => c_l4For p (.mk 3 yn ys yts) hpl st
 have hsolve := fun hb => cN_l5Solve2 (N := N) h0 (by omega) hg ho yn ys yts hb (okX_kids N (.mk 3 yn ys yts) (by show (3 : Int) ≠ 1; decide) hyo)
 have htr := c_l6Try p hp
 simp only [Tm.av_mk] at hfor hsolve
 replace hR : (if cutT (.mk 3 yn ys yts) = true then RO.go ⟨rest, σ, N, chs.take keep⟩ else if isBuiltin ys (yts.length : Int) = true then (if (solveG σ ys yts).1 = 0 then RO.go ⟨rest, (solveG σ ys yts).2.1, N, chs⟩ else if (solveG σ ys yts).1 = 1 then RO.fail else RO.stop (endC (solveG σ ys yts).1)) else if forL p (.mk 3 yn ys yts) = [] then RO.stop 8 else match rTry p chs (.mk 3 yn ys yts) rest σ N (forL p (.mk 3 yn ys yts)) with | some s' => RO.go s' | none => RO.fail) = R := hR
 generalize hcu : cutT (.mk 3 yn ys yts) = cu at *
 have hs2 := fun (φ : AF) (d : Nat) (h : φ d = .int .i64 (keep : Int)) => slice_hiL (es := chs.map rcAv) (k := keep) eI_109 h (by simpa using hkp)
 rw [← List.map_take] at hs2
 refine (hcut _).to ?_
 simp -implicitDefEqProofs only [zy4, List.length_map, List.length_cons, hat, hs1, hs2, Nat.le_refl, evF, ↓evZ, implies_true, seval, tf_R7_92]
 refine zq4 (fun h => ?_) (fun h => ?_)
 · rw [if_pos h] at hR
   subst h hR
   simp -implicitDefEqProofs only [zy4, List.length_map, List.length_cons, hat, hs1, hs2, Nat.le_refl, evF, ↓evZ, implies_true, seval, tf_R7_92]
   refine zx5 [(0, 1), (1, 1), (3, 1), (5, 1), (2, 2), (4, 2), (6, 2), (7, 1), (8, 1), (9, 0), (10, 1)] [0, 1, 3, 5, 2, 4, 6, 7, 8, 10] mixed (by decide +kernel) (by decide +kernel) (by decide +kernel) ?_
   simp -implicitDefEqProofs only [zy4, List.length_map, List.length_cons, hat, hs1, hs2, Nat.le_refl, evF, ↓evZ, implies_true, seval, tf_R7_92]
   exact fin0 _ _ _ (by simp only [fin_agg, fin_tup, fin_int, fin_bool, fin_str, fin_slice, fin_fslice, fin_pptr, fin_ptr, fin_func, fin_map, fin_undef, fin_accV, tm_fin, List.map_cons, List.map_nil]; rfl)
 rw [if_neg (by rw [h]; simp)] at hR
 subst h
 simp -implicitDefEqProofs only [zy4, List.length_map, List.length_cons, hat, hs1, hs2, Nat.le_refl, evF, ↓evZ, implies_true, seval, tf_R7_92]
 refine (hbi _).to ?_
 simp -implicitDefEqProofs only [zy4, List.length_map, List.length_cons, hat, hs1, hs2, Nat.le_refl, evF, ↓evZ, implies_true, seval, tf_R7_92]
 refine zq4 (fun h => ?_) (fun h => ?_)
 · have hsol := hsolve h
   rw [if_pos h] at hR
   simp -implicitDefEqProofs only [zy4, List.length_map, List.length_cons, hat, hs1, hs2, Nat.le_refl, evF, ↓evZ, implies_true, seval, tf_R7_92]
   refine app_arrN h0 (by omega) σ fun b hb hA0 => ?_
   have hst := Drops.upd (Drops.refl st) (o := .cells [.fslice [], .fslice [], .fslice []]) h4
   generalize hW : st.upd b4 (.cells [.fslice [], .fslice [], .fslice []]) = W at *
   have hW4 : W b4 = some (.cells [.fslice [], .fslice [], .fslice []]) := by rw [← hW]; exact zy7.upd_same _ _ _
   have hT : Drops (W.upd b (.cells ((arrN N σ).flatMap AV.cells))) W := (Drops.refl _).upd hb
   generalize W.upd b (.cells ((arrN N σ).flatMap AV.cells)) = T at *
   have hb4 : b ≠ b4 := by rintro rfl; rw [hW4] at hb; cases hb
   simp -implicitDefEqProofs only [zy4, List.length_map, List.length_cons, hat, hs1, hs2, Nat.le_refl, evF, ↓evZ, implies_true, seval, tf_R7_92]
   refine (hsol b _ hA0).mono ?_
   rintro _ s2 ⟨rfl, hA, hk2⟩
   have hcode := solveG_code σ ys yts
   generalize solveG σ ys yts = S at *
   obtain ⟨c, σ', tr⟩ := S
   simp only at hA hcode ⊢
   dsimp only at hR
   have hDs : Drops s2 W := by
    intro q
    have key : ∀ o, W q = some o → s2 q = some o := fun o h => hk2 q o ((hT q).2 o h) (by rintro rfl; rw [hb] at h; cases h)
    refine ⟨fun h => ?_, key⟩
    cases hq : W q with
    | none => rfl
    | some o => rw [key o hq] at h; cases h
   have hs24 := (hDs b4).2 _ hW4
   have hstb : st b = none := by rw [← hW, zy7.upd_ne _ _ hb4] at hb; exact hb
   have fin2 : ∀ (o : AO) (r : AV) (x : RO), StepR x (r.fin 0 []) → ∃ s3, Drops (s2.upd b4 o) s3 ∧ ∃ b l s0, s3 = accS s0 b l ∧ (l ≠ [] → s0 b = none) ∧ (∀ e ∈ l, e.isJunk = false) ∧ Even l ∧ s0 = st ∧ StepR x (r.fin b l) := fun o r x hr =>
    ⟨st, (hDs.trans hst).upd h4, 0, [], st, rfl, by simp, by simp, ⟨0, by simp⟩, rfl, hr⟩
   simp -implicitDefEqProofs only [zy4, List.length_map, List.length_cons, hat, hs1, hs2, Nat.le_refl, hs24, evF, ↓evZ, implies_true, seval, tf_R7_92]
   refine zq4 (fun h => ?_) (fun h => ?_)
   · have hc0 : c = 0 := by simpa using h
     subst hc0
     rw [if_pos rfl] at hR
     subst hR
     simp -implicitDefEqProofs only [zy4, List.length_map, List.length_cons, hat, hs1, hs2, Nat.le_refl, hs24, evF, ↓evZ, implies_true, seval, tf_R7_92]
     have harr : arrN N σ' ≠ [] := by intro e; have := arrN_len N σ'; rw [e] at this; simp at this; omega
     refine ⟨st.upd b (.cells ((arrN N σ').flatMap AV.cells)), fun q => ?_, b, arrN N σ', st, by rw [accS_cons harr], fun _ => hstb, arrN_junk _ _, ⟨4, arrN_widths _ _⟩, rfl, ?_⟩
     · by_cases q4 : q = b4
       · subst q4; rw [zy7.upd_same, zy7.upd_ne _ _ (Ne.symm hb4), h4]; simp
       rw [zy7.upd_ne _ _ q4]
       by_cases qb : q = b
       · subst qb; rw [zy7.upd_same, show s2 q = _ from hA]; simp
       rw [zy7.upd_ne _ _ qb]
       exact (hDs.trans hst) q
     · simp only [fin_agg, fin_tup, fin_int, fin_bool, fin_str, fin_slice, fin_fslice, fin_pptr, fin_ptr, fin_func, fin_map, fin_undef, fin_accV, tm_fin, List.map_cons, List.map_nil, fin_arrN h0]
       rfl
   have hc0 : c ≠ 0 := by simpa using h
   rw [if_neg hc0] at hR
   simp -implicitDefEqProofs only [zy4, List.length_map, List.length_cons, hat, hs1, hs2, Nat.le_refl, hs24, evF, ↓evZ, implies_true, seval, tf_R7_92]
   refine zq4 (fun h => ?_) (fun h => ?_)
   · have hc1 : c = 1 := by simpa using h
     subst hc1
     rw [if_pos rfl] at hR
     subst hR
     simp -implicitDefEqProofs only [zy4, List.length_map, List.length_cons, hat, hs1, hs2, Nat.le_refl, hs24, evF, ↓evZ, implies_true, seval, tf_R7_92]
     exact fin2 _ _ _ ⟨_, _, _, by simp only [fin_agg, fin_tup, fin_int, fin_bool, fin_str, fin_slice, fin_fslice, fin_pptr, fin_ptr, fin_func, fin_map, fin_undef, fin_accV, tm_fin, List.map_cons, List.map_nil]; rfl⟩
   have hc1 : c ≠ 1 := by simpa using h
   rw [if_neg hc1] at hR
   subst hR
   have hend : 0 ≤ endC c := by unfold endC; split; omega; split; omega; split; omega; omega
   simp -implicitDefEqProofs only [zy4, List.length_map, List.length_cons, hat, hs1, hs2, Nat.le_refl, hs24, evF, ↓evZ, implies_true, seval, tf_R7_92]
   refine zx5 [(1, 1), (0, 2), (2, 2), (3, 0), (4, 1)] [1, 0, 2, 4] mixed (by decide +kernel) (by decide +kernel) (by decide +kernel) ?_
   simp -implicitDefEqProofs only [zy4, List.length_map, List.length_cons, hat, hs1, hs2, Nat.le_refl, hs24, evF, ↓evZ, implies_true, seval, tf_R7_92]
   refine zw4 (c_l6End c _) ?_
   simp -implicitDefEqProofs only [zy4, List.length_map, List.length_cons, hat, hs1, hs2, Nat.le_refl, hs24, evF, ↓evZ, implies_true, seval, tf_R7_92]
   exact fin2 _ _ _ ⟨hend, _, _, _, by simp only [fin_agg, fin_tup, fin_int, fin_bool, fin_str, fin_slice, fin_fslice, fin_pptr, fin_ptr, fin_func, fin_map, fin_undef, fin_accV, tm_fin, List.map_cons, List.map_nil]; rfl⟩
 rw [if_neg (by rw [h]; simp)] at hR
 simp -implicitDefEqProofs only [zy4, List.length_map, List.length_cons, hat, hs1, hs2, Nat.le_refl, evF, ↓evZ, implies_true, seval, tf_R7_92]
 refine (hfor _).to ?_
 have hcx : RcOk p ⟨.mk 3 yn ys yts, rest, forL p (.mk 3 yn ys yts), σ, N⟩ := ⟨hg, ho, hd, hyo, hrest, fun i hi => by
  unfold forL at hi
  exact List.mem_range.1 (List.mem_filter.1 hi).1, by simp only; simp only [List.length_cons] at hgl; omega, by
  have := forT_len p (.mk 3 yn ys yts) p.length
  rw [← forL_eq] at this
  simp only; omega⟩
 have htr2 := fun st => htr (⟨.mk gk gn gs' gts, keep⟩ :: rest) (arrN N σ) chs _ hcx h0 (by simp only; omega) (by omega) st
 rw [List.map_cons, rgAv_mk, rcAv_mk] at htr2
 simp only at htr2
 generalize forL p (.mk 3 yn ys yts) = left at *
 simp -implicitDefEqProofs only [zy4, List.length_map, List.length_cons, hat, hs1, hs2, Nat.le_refl, evF, ↓evZ, implies_true, seval, tf_R7_92]
 refine zq4 (fun h => ?_) (fun h => ?_)
 · have h' : left = [] := by
    have : (left.length : Int) = 0 := by simpa using h
    exact List.eq_nil_of_length_eq_zero (by omega)
   rw [if_pos h'] at hR
   subst hR
   simp -implicitDefEqProofs only [zy4, List.length_map, List.length_cons, hat, hs1, hs2, Nat.le_refl, evF, ↓evZ, implies_true, seval, tf_R7_92]
   exact fin0 _ _ _ ⟨by decide, _, _, _, by simp only [fin_agg, fin_tup, fin_int, fin_bool, fin_str, fin_slice, fin_fslice, fin_pptr, fin_ptr, fin_func, fin_map, fin_undef, fin_accV, tm_fin, List.map_cons, List.map_nil]; rfl⟩
 have h' : left ≠ [] := by
  rintro rfl
  simp at h
 rw [if_neg h'] at hR
 generalize rTry p chs (.mk 3 yn ys yts) rest σ N left = x at *
 simp -implicitDefEqProofs only [zy4, List.length_map, List.length_cons, hat, hs1, hs2, Nat.le_refl, evF, ↓evZ, implies_true, seval, tf_R7_92]
 cases x with
 | none =>
  simp only at hR htr2
  subst hR
  refine (htr2 _).mono ?_
  rintro _ _ ⟨rfl, rfl⟩
  simp -implicitDefEqProofs only [zy4, List.length_map, List.length_cons, hat, hs1, hs2, Nat.le_refl, evF, ↓evZ, implies_true, seval, tf_R7_92]
  exact fin0 _ _ _ ⟨_, _, _, by simp only [fin_agg, fin_tup, fin_int, fin_bool, fin_str, fin_slice, fin_fslice, fin_pptr, fin_ptr, fin_func, fin_map, fin_undef, fin_accV, tm_fin, List.map_cons, List.map_nil]; rfl⟩
 | some s =>
  simp only [rsAv] at hR htr2
  subst hR
  refine (htr2 _).mono ?_
  rintro _ _ ⟨rfl, rfl⟩
  simp -implicitDefEqProofs only [zy4, List.length_map, List.length_cons, hat, hs1, hs2, Nat.le_refl, evF, ↓evZ, implies_true, seval, tf_R7_92]
  exact fin0 _ _ _ (by simp only [fin_agg, fin_tup, fin_int, fin_bool, fin_str, fin_slice, fin_fslice, fin_pptr, fin_ptr, fin_func, fin_map, fin_undef, fin_accV, tm_fin, List.map_cons, List.map_nil]; rfl)
end Go.AW


namespace Go.AW
open Go.Proofs.Tryz
set_option linter.unusedSimpArgs false
set_option linter.unusedVariables false
set_option maxRecDepth 100000
theorem shf_zero {N : Int} {t : Tm} (h : OkV N t) : shf 0 t = t := by
 have h1 : shf 0 t = t.mapv vr := by
  unfold shf ren
  congr 1
  funext v
  congr 1
  simp
 rw [h1, mapv_id t h.2.1]
theorem arrN_none (N : Nat) : arrN N Sub.none = List.replicate N zt := by
 apply List.ext_getElem?
 intro i
 by_cases h : i < N
 · rw [arrN_get N _ h, List.getElem?_replicate, if_pos h]; rfl
 · rw [List.getElem?_eq_none (by rw [arrN_len]; omega), List.getElem?_eq_none (by simp; omega)]
abbrev tf_R8_90 := zi tI_3 (zi zI_3 (zi underlying3 (zi tI_31 (zi zI_31 (zi eI_31 (zi eB_31 (zi eZ_31 (zi underlying31 (zi tI_108 (zi zI_108 (zi eI_108 (zi eB_108 (zi eZ_108 (zi underlying108 (zi tI_111 (zi zI_111 (zi fI_111_0 (zi fI_111_1 (zi fI_111_2 bI_111)))))))))))))))))))
theorem c_l6Start (q : List Tm) (hq : ∀ t ∈ q, OkX 26 t) (h6 : q.length ≤ 6) (st : zy7) : zq7 prog 90 [.slice (q.map Tm.av)] st (fun r st' => r = rsAv (rStart q) ∧ st' = st) := by
 have hgo : ∀ st, zq7 prog 139 [.slice (q.map Tm.av), .int .i64 0, .int .i64 0, .fslice []] st (fun r st' => r = .slice ((rStart q).goals.map rgAv) ∧ st' = st) := fun st =>
  zq7.softArgs ((c_l6Goals q 0 0 [] hq h6 (by omega) (by simp) st).mono fun _ _ h => ⟨by
   rw [h.1]
   unfold rStart
   rw [List.append_nil]
   congr 2
   exact List.map_congr_left fun t ht => by rw [shf_zero (hq t ht).1], h.2⟩)
 refine zq7.drop2 (zq7.fin (zq7.dropS ?_))
 refine zw6 [1000000, 3] func90 ntmps90 rfl rfl (by kernel_rfl) (by decide +kernel) (by show 1 ≤ _; decide +kernel) ?_
 intro _
 simp -implicitDefEqProofs only [zy4, List.length_map, evF, ↓evZ, implies_true, seval, tf_R8_90]
 intro b2 h2
 simp -implicitDefEqProofs only [aMakeSlice, zy4, List.length_map, evE, ↓evZ2, ↓evZ3, ↓Int.cast_ofNat_Int, implies_true, zy2, aFn, List.contains, List.elem, zq3, zy1, zq2, sub, zx3, zw2, zw3, zy3, gd, zq1, zw0, zq0, zx0, zx2, zx1, zy0, zw1, List.range', ↓reduceIte, reduceCtorEq, Nat.reduceEqDiff, Nat.reduceAdd, Nat.reduceLeDiff, Nat.reduceMul, Nat.reduceLT, Nat.reduceBEq, Int.reduceEq, tf_R8_90]
 refine ⟨by omega, by omega, by omega, fun bb hbb => ?_⟩
 rw [show Int.toNat 26 = 26 from rfl, madeAV_eq _ (by simp)]
 have hb2 : bb ≠ b2 := by rintro rfl; rw [zy7.upd_same] at hbb; cases hbb
 have hcells : (List.replicate 26 [AV.int .i64 0, .int .i64 0, .str ⟨#[]⟩, .fslice []]).flatten = (arrN 26 Sub.none).flatMap AV.cells := by
  rw [arrN_none]; rfl
 rw [hcells]
 have h22 : (st.upd b2 (AO.cells [AV.fslice [], AV.fslice [], AV.fslice []])) b2 = some (AO.cells [AV.fslice [], AV.fslice [], AV.fslice []]) := zy7.upd_same _ _ _
 have hD2 : Drops (st.upd b2 (AO.cells [AV.fslice [], AV.fslice [], AV.fslice []])) st := (Drops.refl _).upd h2
 intro b3 h3
 have h3b : b3 ≠ bb := by rintro rfl; rw [zy7.upd_same] at h3; cases h3
 rw [zy7.upd_ne _ _ h3b] at h3
 have h32 : b3 ≠ b2 := by rintro rfl; rw [zy7.upd_same] at h3; cases h3
 have hs3 : st b3 = none := by rw [zy7.upd_ne _ _ h32] at h3; exact h3
 have hsb : st bb = none := by rw [zy7.upd_ne _ _ hb2] at hbb; exact hbb
 refine (hgo _).to ?_
 have e1 := Ne.symm h3b
 have e2 := Ne.symm h32
 have e3 := Ne.symm hb2
 simp -implicitDefEqProofs only [zy4, List.length_map, h3b, h32, e1, e2, e3, hb2, zy7.upd_same, evF, ↓evZ, implies_true, seval, tf_R8_90]
 have harr : arrN 26 Sub.none ≠ [] := by rw [arrN_none]; simp
 refine ⟨st.upd bb (.cells ((arrN 26 Sub.none).flatMap AV.cells)), fun q' => ?_, bb, arrN 26 Sub.none, st, by rw [accS_cons harr], fun _ => hsb, arrN_junk _ _, ⟨4, arrN_widths _ _⟩, ?_, Drops.refl _⟩
 · by_cases q2 : q' = b2
   · subst q2; rw [zy7.upd_same, zy7.upd_ne _ _ e3, h2]; simp
   rw [zy7.upd_ne _ _ q2]
   by_cases q3 : q' = b3
   · subst q3; rw [zy7.upd_same, zy7.upd_ne _ _ h3b, hs3]; simp
   simp only [zy7.upd_ne _ _ q3]
   by_cases qb : q' = bb
   · subst qb; rw [zy7.upd_same, zy7.upd_same]; simp
   rw [zy7.upd_ne _ _ qb, zy7.upd_ne _ _ qb, zy7.upd_ne _ _ q2]
   simp
 · simp only [fin_agg, fin_tup, fin_int, fin_bool, fin_str, fin_slice, fin_fslice, fin_pptr, fin_ptr, fin_func, fin_map, fin_undef, fin_accV, tm_fin, List.map_cons, List.map_nil, fin_arrN (show 0 < 26 by omega)]
   rfl
end Go.AW


namespace Go.AW
open Go.Proofs.Tryz
set_option linter.unusedSimpArgs false
set_option linter.unusedVariables false
set_option maxRecDepth 100000
theorem accS_updC {S : zy7} {b c : Nat} {l : List AV} {o : AO} (h : l ≠ [] → b ≠ c) : (accS S b l).upd c o = accS (S.upd c o) b l := by
 cases l with
 | nil => rfl
 | cons x l => rw [accS_cons (by simp), accS_cons (by simp), zy7.upd_comm _ _ _ (h (by simp))]
theorem rRun_nil {p : List Cl} {cnd : Tm → List Nat → List Nat} {vars : List Int} {most fuel : Nat} {s : RS} (hg : s.goals = []) : rRun p cnd vars most fuel s = if most = 0 then ([], 1) else match ansR s.σ vars with
 | none => ([], 3)
 | some a => match rBack p s.chs.length s.chs with
  | none => ([a], 0)
  | some s' => (a :: (rRun p cnd vars (most - 1) fuel s').1, (rRun p cnd vars (most - 1) fuel s').2) := by
 rw [rRun.eq_def, hg]
 simp only
 split <;> rfl
theorem rRun_cons {p : List Cl} {cnd : Tm → List Nat → List Nat} {vars : List Int} {most fuel : Nat} {s : RS} {g : RG} {rest : List RG} (hg : s.goals = g :: rest) : rRun p cnd vars most fuel s = if fuel = 0 then ([], 2) else match rStep p cnd s g rest with
 | .stop e => ([], e)
 | .go s' => rRun p cnd vars most (fuel - 1) s'
 | .fail => match rBack p s.chs.length s.chs with
  | none => ([], 0)
  | some s' => rRun p cnd vars most (fuel - 1) s' := by
 rw [rRun.eq_def, hg]
 simp only
 split <;> rfl
structure RunI (p : List Cl) (vars : List Int) (most fuel : Nat) (T : List (List Tm) × Int) (s : RS) (out : List (List Tm)) (f B : Nat) : Prop where
 tot : T = (out ++ (rRun p (fun _ l => l) vars (most - out.length) f s).1, (rRun p (fun _ l => l) vars (most - out.length) f s).2)
 len : out.length ≤ most
 ok : RsA p B s
 bd : B + 26 * f ≤ 8000
abbrev tf_R9_39 := zi tI_2 (zi zI_2 (zi underlying2 (zi tI_3 (zi zI_3 (zi underlying3 (zi tI_4 (zi zI_4 (zi underlying4 (zi tI_26 (zi zI_26 (zi eI_26 (zi eB_26 (zi eZ_26 (zi underlying26 (zi tI_29 (zi zI_29 (zi eI_29 (zi eB_29 (zi eZ_29 (zi underlying29 (zi tI_31 (zi zI_31 (zi eI_31 (zi eB_31 (zi eZ_31 (zi underlying31 (zi tI_51 (zi zI_51 (zi fI_51_0 (zi bI_51 (zi tI_58 (zi zI_58 (zi eI_58 (zi eB_58 (zi eZ_58 (zi underlying58 (zi tI_108 (zi zI_108 (zi eI_108 (zi eB_108 (zi eZ_108 (zi underlying108 (zi tI_111 (zi zI_111 (zi fI_111_0 (zi fI_111_1 (zi fI_111_2 bI_111)))))))))))))))))))))))))))))))))))))))))))))))
theorem c_l6Run {p : List Cl} (hp : ∀ c ∈ p, ClX c ∧ c.2.length ≤ 6) (hpl : p.length ≤ 20) {q : List Tm} (hq : ∀ t ∈ q, OkX 26 t ∧ t.k = 3) (h6 : q.length ≤ 6) {most fuel : Nat} (hm : most ≤ 20) (hf : fuel ≤ 300) (st : zy7) :
 zq7 prog 39 [.slice (p.map clAv), .slice (q.map Tm.av), .int .i64 (most : Int), .int .i64 (fuel : Int)] st (fun r st' => r = .tup [.slice ((solveR p (fun _ l => l) q most fuel).1.map ansAv), .int .i64 (solveR p (fun _ l => l) q most fuel).2] ∧ st' = st) := by
 have hnd : sumL Tm.nodes q ≤ 1099511627776 := by
  have := nodes_120 q fun t ht => (hq t ht).1.2
  omega
 have hva := fun st => c_l6Vars q st (fun t ht => Tm.cv_wf t (hq t ht).1.1.2.1) hnd
 have hst0 := fun st => c_l6Start q (fun t ht => (hq t ht).1) h6 st
 have hv : ∀ v ∈ tmsVars q [], 0 ≤ v ∧ v < 26 := fun v hv => by
  rcases (tmsVars_mem q [] fun t ht => (hq t ht).1.1.2.1).1 hv with h | ⟨t, ht, h⟩
  · cases h
  · exact (hq t ht).1.1.2.2 v h
 have hvl : (tmsVars q []).length ≤ 1000 := by
  have h1 := tmsVars_len q []
  have h2 := nodes_120 q fun t ht => (hq t ht).1.2
  simp only [List.length_nil] at h1
  omega
 have hstart := RsA.start (p := p) hq h6
 generalize hT : solveR p (fun _ l => l) q most fuel = T
 unfold solveR at hT
 generalize tmsVars q [] = vars at *
 have hI0 : RunI p vars most fuel T (rStart q) [] fuel 26 := ⟨by rw [← hT]; rfl, Nat.zero_le _, hstart, by omega⟩
 generalize rStart q = s0 at *
 simp only [rsAv] at hst0
 refine zq7.drop2 (zq7.fin (zq7.dropS ?_))
 refine zw6 [1000000, 12] func39 ntmps39 rfl rfl (by kernel_rfl) (by decide +kernel) (by show 4 ≤ _; decide +kernel) ?_
 intro _
 simp -implicitDefEqProofs only [zy4, List.length_map, evF, ↓evZ, implies_true, seval, tf_R9_39]
 refine (hva _).to ?_
 simp -implicitDefEqProofs only [zy4, List.length_map, evF, ↓evZ, implies_true, seval, tf_R9_39]
 refine (hst0 _).to ?_
 simp -implicitDefEqProofs only [zy4, List.length_map, evF, ↓evZ, implies_true, seval, tf_R9_39]
 intro b12 h12
 refine zw5 (σ := RS × List (List Tm) × Nat × Nat × Nat) [1000000, 12] [0, 2, 11, 12] (fun x => RunI p vars most fuel T x.1 x.2.1 x.2.2.1 x.2.2.2.1 ∧ (x.2.1.map ansAv ≠ [] → (st.upd b12 (.cells [.slice (x.1.goals.map rgAv), .slice (arrN x.1.N x.1.σ), .slice (x.1.chs.map rcAv)])) x.2.2.2.2 = none))
  (fun x => [(3, .int .i64 (x.2.2.1 : Int)), (8, .fslice []), (9, .int .i64 0), (10, accV 1 x.2.2.2.2 (x.2.1.map ansAv))])
  (fun x => accS (st.upd b12 (.cells [.slice (x.1.goals.map rgAv), .slice (arrN x.1.N x.1.σ), .slice (x.1.chs.map rcAv)])) x.2.2.2.2 (x.2.1.map ansAv))
  (fun x => (most - x.2.1.length) + x.2.2.1) (by decide +kernel) ⟨(s0, [], fuel, 26, 0), ⟨hI0, by simp⟩, zx7.mk (by simp -implicitDefEqProofs only [accV_nil, List.map_nil, zy4, List.length_map, evF, ↓evZ, implies_true, seval, tf_R9_39])⟩ ?_
 rintro ⟨s, out, f, B, b⟩ ⟨⟨tot, hlen, hok, hbd⟩, hb⟩
 simp only at tot hlen hok hbd hb
 simp only
 have hbc : out.map ansAv ≠ [] → b ≠ b12 := fun h => by rintro rfl; have := hb h; rw [zy7.upd_same] at this; cases this
 have hV12 := accS_other hb (zy7.upd_same st b12 (.cells [.slice (s.goals.map rgAv), .slice (arrN s.N s.σ), .slice (s.chs.map rcAv)]))
 have hlo : (out.map ansAv).length = out.length := List.length_map _
 have hjunk : ∀ l : List (List Tm), ∀ e ∈ l.map ansAv, e.isJunk = false := fun l e he => by simp only [List.mem_map] at he; obtain ⟨t, _, rfl⟩ := he; rfl
 have hwid : ∀ l : List (List Tm), ∀ e ∈ l.map ansAv, e.width = 1 := fun l e he => by simp only [List.mem_map] at he; obtain ⟨t, _, rfl⟩ := he; rfl
 have fin : ∀ (S : zy7) (b : Nat) (l : List (List Tm)) (e : Int), (l.map ansAv ≠ [] → S b = none) → Drops S st → T = (l, e) → ∃ s2, Drops (accS S b (l.map ansAv)) s2 ∧ ∃ b' l' s0, s2 = accS s0 b' l' ∧ (l' ≠ [] → s0 b' = none) ∧ (∀ e ∈ l', e.isJunk = false) ∧ Even l' ∧ (AV.tup [accV 1 b (l.map ansAv), .int .i64 e]).fin b' l' = .tup [.slice (T.1.map ansAv), .int .i64 T.2] ∧ Drops s0 st := fun S b l e h1 h2 h3 =>
  ⟨_, Drops.refl _, b, l.map ansAv, S, rfl, h1, hjunk l, ⟨1, hwid l⟩, by subst h3; simp only [fin_agg, fin_tup, fin_int, fin_bool, fin_str, fin_slice, fin_fslice, fin_pptr, fin_ptr, fin_func, fin_map, fin_undef, fin_accV, tm_fin, List.map_cons, List.map_nil], h2⟩
 have hSD : ∀ o, Drops (st.upd b12 o) st := fun o => (Drops.refl _).upd h12
 generalize hX : (AO.cells [.slice (s.goals.map rgAv), .slice (arrN s.N s.σ), .slice (s.chs.map rcAv)]) = X at hV12 hb
 have hV12 := hV12.trans (congrArg some hX.symm)
 have hun : prog.underlying 26 = some (.slice 51) := by kernel_rfl
 have hlenA := accV_len (w := 1) (b := b) (l := out.map ansAv) hun
 rw [hlo] at hlenA
 cases hgs : s.goals with
 | nil =>
  rw [hgs] at hX hV12
  simp only [List.map_nil] at hX hV12
  rw [rRun_nil hgs] at tot
  simp -implicitDefEqProofs only [zy4, List.length_map, List.length_nil, List.length_cons, hlenA, hV12, accV_junk, accV_store, accV_agg, accV_cells, evF, ↓evZ, implies_true, seval, tf_R9_39]
  refine zq4 (fun h => ?_) (fun h => ?_)
  · have h' : out.length = most := by simp at h; omega
    rw [if_pos (by omega)] at tot
    simp -implicitDefEqProofs only [zy4, List.length_map, List.length_nil, List.length_cons, hlenA, hV12, accV_junk, accV_store, accV_agg, accV_cells, evF, ↓evZ, implies_true, seval, tf_R9_39]
    exact fin _ b out 1 hb (hSD _) (by rw [tot, List.append_nil])
  have h' : out.length < most := by simp at h; omega
  rw [if_neg (by omega)] at tot
  simp -implicitDefEqProofs only [zy4, List.length_map, List.length_nil, List.length_cons, hlenA, hV12, accV_junk, accV_store, accV_agg, accV_cells, evF, ↓evZ, implies_true, seval, tf_R9_39]
  refine (c_l6Answer (N := s.N) hok.a.good hok.a.ok vars (fun v h => ⟨(hv v h).1, by have := (hv v h).2; have := hok.l.1; omega⟩) hvl _).mono ?_
  rintro _ _ ⟨rfl, a, rfl, ha⟩
  cases hans : ansR s.σ vars with
  | none =>
   rw [hans] at tot
   simp only [Option.isSome_none, ansAv]
   simp -implicitDefEqProofs only [zy4, List.length_map, List.length_nil, List.length_cons, hlenA, hV12, accV_junk, accV_store, accV_agg, accV_cells, evF, ↓evZ, implies_true, seval, tf_R9_39]
   exact fin _ b out 3 hb (hSD _) (by rw [tot, List.append_nil])
  | some x =>
   obtain rfl := ha x hans
   rw [hans] at tot
   simp only [Option.isSome_some, ansAv] at tot ⊢
   simp -implicitDefEqProofs only [zy4, List.length_map, List.length_nil, List.length_cons, hlenA, hV12, accV_junk, accV_store, accV_agg, accV_cells, evF, ↓evZ, implies_true, seval, tf_R9_39]
   refine acc_append (P := prog) (b := b) (l := out.map ansAv) (xs := [ansAv a]) eI_26 eB_26 eZ_26 rfl rfl (by intro e he; simp only [List.mem_cons, List.not_mem_nil, or_false] at he; subst he; exact ⟨rfl, rfl⟩) (hwid out) hb (by simp only [List.length_cons, List.length_nil, hlo]; omega) (by simp only [List.length_cons, List.length_nil, hlo]; omega) (fun b' hb' => ?_)
   rw [show (out.map ansAv) ++ [ansAv a] = (out ++ [a]).map ansAv by simp] at hb' ⊢
   have hV12' := (accS_other hb' (zy7.upd_same st b12 X)).trans (congrArg some hX.symm)
   simp -implicitDefEqProofs only [zy4, List.length_map, List.length_nil, List.length_cons, hV12', accV_junk, accV_store, accV_agg, accV_cells, evF, ↓evZ, implies_true, seval, tf_R9_39]
   have hcast : (f : Int) = (f : Int) := rfl
   refine (c_l6Back hp (B := B) (by omega) [] (arrN s.N s.σ) s.chs hok.a.chl hok.a.chs _).mono ?_
   rintro r _ ⟨rfl, hr⟩
   cases hbk : rBack p s.chs.length s.chs with
   | none =>
    rw [hbk] at hr tot
    simp only at hr tot
    obtain ⟨l1, l2, l3, rfl⟩ := hr
    simp -implicitDefEqProofs only [zy4, List.length_map, List.length_nil, List.length_cons, hV12', accV_junk, accV_store, accV_agg, accV_cells, evF, ↓evZ, implies_true, seval, tf_R9_39]
    exact fin _ b' (out ++ [a]) 0 hb' (hSD _) (by rw [tot]; try rw [List.append_nil])
   | some s' =>
    rw [hbk] at hr tot
    simp only [rsAv] at hr tot
    subst hr
    simp -implicitDefEqProofs only [zy4, List.length_map, List.length_nil, List.length_cons, hV12', accV_junk, accV_store, accV_agg, accV_cells, evF, ↓evZ, implies_true, seval, tf_R9_39]
    rw [accS_updC (fun h => by rintro rfl; have := hb' h; rw [zy7.upd_same] at this; cases this), zy7.upd_upd]
    have hne : (out ++ [a]).map ansAv ≠ [] → b' ≠ b12 := fun h => by rintro rfl; have := hb' h; rw [zy7.upd_same] at this; cases this
    refine ⟨(s', out ++ [a], f, B, b'), by simp only [List.length_append, List.length_cons, List.length_nil]; omega, ⟨⟨by rw [tot]; try simp only [List.append_assoc, List.cons_append, List.nil_append, List.length_append, List.length_cons, List.length_nil, Nat.sub_sub]; try rfl, by simp only [List.length_append, List.length_cons, List.length_nil]; omega, hok.back hp (by omega) hbk, by simp only; omega⟩, fun h => by rw [zy7.upd_ne _ _ (hne h)]; have := hb' h; rwa [zy7.upd_ne _ _ (hne h)] at this⟩, zx7.mk (by simp -implicitDefEqProofs only [hcast, zy4, List.length_map, List.length_nil, List.length_cons, hV12', accV_junk, accV_store, accV_agg, accV_cells, evF, ↓evZ, implies_true, seval, tf_R9_39])⟩
 | cons g rest =>
  rw [hgs] at hX hV12
  rw [rRun_cons hgs] at tot
  simp -implicitDefEqProofs only [zy4, List.length_map, List.length_nil, List.length_cons, hlenA, hV12, accV_junk, accV_store, accV_agg, accV_cells, evF, ↓evZ, implies_true, seval, tf_R9_39]
  refine zq4 (fun h => absurd h (by simp; omega)) (fun h => ?_)
  simp -implicitDefEqProofs only [zy4, List.length_map, List.length_nil, List.length_cons, hlenA, hV12, accV_junk, accV_store, accV_agg, accV_cells, evF, ↓evZ, implies_true, seval, tf_R9_39]
  refine zq4 (fun h => ?_) (fun h => ?_)
  · have h' : f = 0 := by simp at h; omega
    rw [if_pos h'] at tot
    simp -implicitDefEqProofs only [zy4, List.length_map, List.length_nil, List.length_cons, hlenA, hV12, accV_junk, accV_store, accV_agg, accV_cells, evF, ↓evZ, implies_true, seval, tf_R9_39]
    exact fin _ b out 2 hb (hSD _) (by rw [tot, List.append_nil])
  have h' : f ≠ 0 := by simp at h; omega
  rw [if_neg h'] at tot
  have hw := wrap64 (n := (f : Int) - 1) (by omega) (by omega)
  simp -implicitDefEqProofs only [hw, zy4, List.length_map, List.length_nil, List.length_cons, hlenA, hV12, accV_junk, accV_store, accV_agg, accV_cells, evF, ↓evZ, implies_true, seval, tf_R9_39]
  have hst := c_l6Step hp (by omega) (B := B) (by omega) s.goals s.σ s.N s.chs g rest hgs hok.a hok.k
  rw [hgs, List.map_cons] at hst
  refine (hst _).mono ?_
  rintro r _ ⟨rfl, hr⟩
  have hse : (⟨g :: rest, s.σ, s.N, s.chs⟩ : RS) = s := by rw [← hgs]
  rw [hse] at hr
  cases hstep : rStep p (fun _ l => l) s g rest with
  | go s' =>
   rw [hstep] at hr tot
   simp only [StepR, rsAv] at hr tot
   subst hr
   simp -implicitDefEqProofs only [zy4, List.length_map, List.length_nil, List.length_cons, hlenA, hV12, accV_junk, accV_store, accV_agg, accV_cells, evE, ↓evZ2, ↓evZ3, ↓Int.cast_ofNat_Int, implies_true, zy2, aFn, List.contains, List.elem, zq3, zy1, zq2, sub, zx3, zw2, zw3, zy3, gd, zq1, zw0, zq0, zx0, zx2, zx1, zy0, zw1, List.range', ↓reduceIte, reduceCtorEq, Nat.reduceEqDiff, Nat.reduceAdd, Nat.reduceLeDiff, Nat.reduceMul, Nat.reduceLT, Nat.reduceBEq, Int.reduceEq, tf_R9_39]
   refine zq4 (fun h => absurd h (by decide)) (fun h => ?_)
   simp -implicitDefEqProofs only [zy4, List.length_map, List.length_nil, List.length_cons, hlenA, hV12, accV_junk, accV_store, accV_agg, accV_cells, evF, ↓evZ, implies_true, seval, tf_R9_39]
   rw [accS_updC hbc, zy7.upd_upd]
   have hcast : ((f - 1 : Nat) : Int) = (f : Int) - 1 := by omega
   refine ⟨(s', out, f - 1, B + 26, b), by simp only; omega, ⟨⟨tot, hlen, hok.step hp (by omega) (by omega) (cnd := fun _ l => l) (fun _ _ => ⟨fun _ h => h, Nat.le_refl _⟩) hgs hstep, by simp only; omega⟩, fun h => by rw [zy7.upd_ne _ _ (hbc h)]; have := hb h; rwa [zy7.upd_ne _ _ (hbc h)] at this⟩, zx7.mk (by simp -implicitDefEqProofs only [hcast, zy4, List.length_map, List.length_nil, List.length_cons, hlenA, hV12, accV_junk, accV_store, accV_agg, accV_cells, evF, ↓evZ, implies_true, seval, tf_R9_39])⟩
  | fail =>
   rw [hstep] at hr tot
   simp only [StepR] at hr tot
   obtain ⟨l1, l2, l3, rfl⟩ := hr
   simp -implicitDefEqProofs only [zy4, List.length_map, List.length_nil, List.length_cons, hlenA, hV12, accV_junk, accV_store, accV_agg, accV_cells, evE, ↓evZ2, ↓evZ3, ↓Int.cast_ofNat_Int, implies_true, zy2, aFn, List.contains, List.elem, zq3, zy1, zq2, sub, zx3, zw2, zw3, zy3, gd, zq1, zw0, zq0, zx0, zx2, zx1, zy0, zw1, List.range', ↓reduceIte, reduceCtorEq, Nat.reduceEqDiff, Nat.reduceAdd, Nat.reduceLeDiff, Nat.reduceMul, Nat.reduceLT, Nat.reduceBEq, Int.reduceEq, tf_R9_39]
   refine zq4 (fun h => absurd h (by decide)) (fun h => ?_)
   simp -implicitDefEqProofs only [zy4, List.length_map, List.length_nil, List.length_cons, hlenA, hV12, accV_junk, accV_store, accV_agg, accV_cells, evF, ↓evZ, implies_true, seval, tf_R9_39]
   have hcast : ((f - 1 : Nat) : Int) = (f : Int) - 1 := by omega
   refine (c_l6Back hp (B := B) (by omega) (g :: rest) (arrN s.N s.σ) s.chs hok.a.chl hok.a.chs _).mono ?_
   rintro r _ ⟨rfl, hr⟩
   cases hbk : rBack p s.chs.length s.chs with
   | none =>
    rw [hbk] at hr tot
    simp only at hr tot
    obtain ⟨l1, l2, l3, rfl⟩ := hr
    simp -implicitDefEqProofs only [zy4, List.length_map, List.length_nil, List.length_cons, hlenA, hV12, accV_junk, accV_store, accV_agg, accV_cells, evF, ↓evZ, implies_true, seval, tf_R9_39]
    exact fin _ b (out) 0 hb (hSD _) (by rw [tot]; try rw [List.append_nil])
   | some s' =>
    rw [hbk] at hr tot
    simp only [rsAv] at hr tot
    subst hr
    simp -implicitDefEqProofs only [zy4, List.length_map, List.length_nil, List.length_cons, hlenA, hV12, accV_junk, accV_store, accV_agg, accV_cells, evF, ↓evZ, implies_true, seval, tf_R9_39]
    rw [accS_updC (fun h => by rintro rfl; have := hb h; rw [zy7.upd_same] at this; cases this), zy7.upd_upd]
    have hne : (out).map ansAv ≠ [] → b ≠ b12 := fun h => by rintro rfl; have := hb h; rw [zy7.upd_same] at this; cases this
    refine ⟨(s', out, f - 1, B, b), by simp only [List.length_append, List.length_cons, List.length_nil]; omega, ⟨⟨by rw [tot]; try simp only [List.append_assoc, List.cons_append, List.nil_append, List.length_append, List.length_cons, List.length_nil, Nat.sub_sub]; try rfl, by simp only [List.length_append, List.length_cons, List.length_nil]; omega, hok.back hp (by omega) hbk, by simp only; omega⟩, fun h => by rw [zy7.upd_ne _ _ (hne h)]; have := hb h; rwa [zy7.upd_ne _ _ (hne h)] at this⟩, zx7.mk (by simp -implicitDefEqProofs only [hcast, zy4, List.length_map, List.length_nil, List.length_cons, hlenA, hV12, accV_junk, accV_store, accV_agg, accV_cells, evF, ↓evZ, implies_true, seval, tf_R9_39])⟩
  | stop e =>
   rw [hstep] at hr tot
   simp only [StepR] at hr tot
   obtain ⟨he0, l1, l2, l3, rfl⟩ := hr
   simp -implicitDefEqProofs only [zy4, List.length_map, List.length_nil, List.length_cons, hlenA, hV12, accV_junk, accV_store, accV_agg, accV_cells, evF, ↓evZ, implies_true, seval, tf_R9_39]
   refine zq4 (fun h => ?_) (fun h => absurd he0 (by simpa using h))
   simp -implicitDefEqProofs only [zy4, List.length_map, List.length_nil, List.length_cons, hlenA, hV12, accV_junk, accV_store, accV_agg, accV_cells, evF, ↓evZ, implies_true, seval, tf_R9_39]
   exact fin _ b out e hb (hSD _) (by rw [tot, List.append_nil])
end Go.AW

/- What the laws on exact results need: held values beside one another. -/
namespace Go.AW
set_option linter.unusedSimpArgs false
set_option linter.unusedVariables false
def MadeT (st : zy7) (xs : List AV) (r : AV) (st' : zy7) : Prop := ∃ (os : List AV) (bs : List Nat), r = .tup os ∧ bs.Nodup ∧ (∀ b ∈ bs, st b = none) ∧ OwnL st' xs os bs ∧ ∀ b, b ∉ bs → st' b = st b
theorem OwnL.viewT {h : Heap} {st s0 : zy7} (S : SRel h st) (D : Drops st s0) : ∀ (xs os : List AV) (bs : List Nat) (vs : List Value), OwnL st xs os bs → (∀ b ∈ bs, s0 b = none) → VTs h st os vs → VTs h s0 xs vs
 | [], os, bs, vs, x, _, y => by simp only [OwnL] at x; rw [x.1] at y; exact y
 | a :: xs, os, bs, vs, x, hb, y => by
  simp only [OwnL] at x
  obtain ⟨o, os', b1, b2, rfl, rfl, x1, x2⟩ := x
  simp only [VTs] at y ⊢
  obtain ⟨v, r, e, ⟨y0, y1⟩, y2⟩ := y
  exact ⟨v, r, e, ⟨x1.shape.1.symm.trans y0, Own.view S D a o b1 _ x1 (fun q hq => hb q (by simp [hq])) y1⟩, OwnL.viewT S D xs os' b2 r x2 (fun q hq => hb q (by simp [hq])) y2⟩
theorem zq7.madeT {P : Program} {g : FuncId} {args : List AV} {st : zy7} {xs : List AV} (x : zq7 P g args st (MadeT st xs)) : zq7 P g args st (fun r st' => r = .tup xs ∧ st' = st) :=
 x.weak fun r st' ⟨os, bs, hr, _, h2, h3, h4⟩ => by
  have D : Drops st' st := fun b => ⟨fun e => by
   by_cases hb : b ∈ bs
   · exact h2 b hb
   · rw [← h4 b hb]; exact e, fun o e => by
   by_cases hb : b ∈ bs
   · rw [h2 b hb] at e; cases e
   · rw [h4 b hb]; exact e⟩
  refine ⟨.tup xs, st, D.weakS, fun h v S y => ?_, rfl, rfl⟩
  subst hr
  obtain ⟨y0, y1⟩ := y
  refine ⟨y0, ?_⟩
  unfold VC at y1 ⊢
  obtain ⟨vs, e, y2⟩ := y1
  exact ⟨vs, e, OwnL.viewT S D xs os bs vs h3 h2 y2⟩
theorem zq7.seeMadeT {P : Program} {g : FuncId} {args args' : List AV} {st : zy7} {xs : List AV} (x : ∀ s, zq7 P g args s (MadeT s xs)) (hv : Seen st none0' args' args) : zq7 P g args' st (MadeT st xs) := by
 refine zq7.frame (Drops.none0' st) ((x none0').mono ?_) (Seen.rel (Drops.none0' st) hv)
 rintro r s1 ⟨os, bs, hr, h1, _, h3, h4⟩ hfr
 have hso := OwnL.solid _ _ _ h3
 have hbs : ∀ b ∈ bs, st b = none := fun b hb => hfr b rfl (by
  obtain ⟨cs, e, _⟩ := hso.2 b hb
  rw [e]; simp)
 have hfb : ∀ b ∈ bs, (st.frame none0' s1) b = s1 b := fun b hb => by simp only [zy7.frame, hbs b hb]; split <;> simp_all
 refine ⟨by rw [hr]; unfold AV.solid; exact hso.1.1, fun b o e => ?_, os, bs, hr, h1, hbs, OwnL.keep _ _ _ hfb h3, fun b hb => ?_⟩
 · by_cases hb : b ∈ bs
   · obtain ⟨cs, e2, hs⟩ := hso.2 b hb
     rw [e] at e2; cases e2; exact hs
   · rw [h4 b hb] at e; cases e
 · have := h4 b hb
   simp only [zy7.frame, none0'] at this ⊢
   cases hst : st b with
   | none => exact this
   | some o => rfl
def Apart (b1 b2 : List Nat) : Prop := ∀ b ∈ b1, b ∉ b2
theorem Apart.symm {b1 b2 : List Nat} (h : Apart b1 b2) : Apart b2 b1 := fun b h2 h1 => h b h1 h2
theorem Own.somes {s : zy7} {a o : AV} {bs : List Nat} (h : Own s a o bs) : ∀ b ∈ bs, s b ≠ none := fun b hb => by
 obtain ⟨cs, e, _⟩ := (Own.solid _ _ _ h).2.2 b hb
 rw [e]; simp
theorem Own.apart {s : zy7} {a o : AV} {bs bs' : List Nat} (h : Own s a o bs) (hf : ∀ b ∈ bs', s b = none) : Apart bs bs' := fun b hb hb' => h.somes b hb (hf b hb')
theorem Own.beside {s s' : zy7} {a o : AV} {bs bs' : List Nat} (h : Own s a o bs) (k : ∀ b, b ∉ bs' → s' b = s b) (d : Apart bs bs') : Own s' a o bs := Own.keep _ _ _ (fun b hb => k b (d b hb)) h
theorem Own.one' {st : zy7} {es : List AV} {q : AV} {bs : List Nat} (h : Own st (.slice es) q bs) : q.cells = [q] ∧ q.storable = true ∧ q.isAgg = false ∧ q.width = 1 ∧ q.isJunk = false := by
 simp only [Own] at h
 rcases h with ⟨_, rfl, _⟩ | ⟨_, _, _, _, rfl, _⟩ <;> exact ⟨rfl, rfl, rfl, rfl, rfl⟩
theorem own_agg1 {s : zy7} {x o : AV} {bs : List Nat} : Own s (.agg [x]) o bs ↔ ∃ q, o = .agg [q] ∧ Own s x q bs := by
 simp only [Own, OwnL]
 constructor
 · rintro ⟨os, rfl, o1, os1, b1, b2, rfl, rfl, h, rfl, rfl⟩
   exact ⟨o1, rfl, by simpa using h⟩
 · rintro ⟨q, rfl, h⟩
   exact ⟨_, rfl, q, [], bs, [], rfl, by simp, h, rfl, rfl⟩
theorem ownL_2 {s : zy7} {x y : AV} {os : List AV} {bs : List Nat} : OwnL s [x, y] os bs ↔ ∃ o1 o2 b1 b2, os = [o1, o2] ∧ bs = b1 ++ b2 ∧ Own s x o1 b1 ∧ Own s y o2 b2 := by
 simp only [OwnL]
 constructor
 · rintro ⟨o1, os1, b1, b1', rfl, rfl, h1, o2, os2, b2, b2', rfl, rfl, h2, rfl, rfl⟩
   exact ⟨o1, o2, b1, b2, rfl, by simp, h1, h2⟩
 · rintro ⟨o1, o2, b1, b2, rfl, rfl, h1, h2⟩
   exact ⟨o1, [o2], b1, b2, rfl, rfl, h1, o2, [], b2, [], rfl, by simp, h2, rfl, rfl⟩
end Go.AW


namespace Go.AW
open Go.Proofs.Tryz
set_option linter.unusedSimpArgs false
set_option maxRecDepth 100000
end Go.AW


namespace Go.AW
open Go.Proofs.Tryz
set_option linter.unusedSimpArgs false
set_option maxRecDepth 100000
section
variable {S : zy7} {c b w : Nat} {hd tl l : List AV}
end
structure Ss where
 p : List Cl
 q : List Tm
 quota : Int
 used : Int
 sent : Int
 fin : Int
end Go.AW


namespace Go.AW
open Go.Proofs.Tryz
set_option linter.unusedSimpArgs false
set_option maxRecDepth 100000
end Go.AW


namespace Go.AW
open Go.Proofs.Tryz
set_option linter.unusedSimpArgs false
set_option linter.unusedVariables false
set_option maxRecDepth 100000
def solveOk (p : List Cl) (q : List Tm) (most fuel : Int) : Bool := progOk p && (queryOk q && (decide (0 ≤ most) && (decide (most ≤ 20) && (decide (0 ≤ fuel) && decide (fuel ≤ 300)))))
noncomputable def solveS (p : List Cl) (cnd : Tm → List Nat → List Nat) (q : List Tm) (most fuel : Int) : List (List Tm) × Int := if solveOk p q most fuel = true then solveR p cnd q most.toNat fuel.toNat else ([], 9)
theorem progOk_X {p : List Cl} (h : progOk p = true) : p.length ≤ 20 ∧ ∀ c ∈ p, ClX c ∧ c.2.length ≤ 6 := by
 simp only [progOk, Bool.and_eq_true, decide_eq_true_eq, List.all_eq_true] at h
 refine ⟨h.1, fun c hc => ⟨clOk_X (h.2 c hc), ?_⟩⟩
 have := h.2 c hc
 simp only [clOk, Bool.and_eq_true, decide_eq_true_eq, List.all_eq_true] at this
 exact this.2.1
theorem queryOk_X {q : List Tm} (h : queryOk q = true) : q.length ≤ 6 ∧ ∀ t ∈ q, OkX 26 t ∧ t.k = 3 := by
 simp only [queryOk, Bool.and_eq_true, decide_eq_true_eq, List.all_eq_true] at h
 refine ⟨h.1, fun t ht => ?_⟩
 have hg := h.2 t ht
 have hk : t.valid = true ∧ t.k = 3 := by
  obtain ⟨k, n, s, ts⟩ := t
  simp only [Tm.goal, Bool.and_eq_true] at hg
  refine ⟨hg.1, ?_⟩
  have := hg.2
  simp only [goalOk, plainGoal, Bool.or_eq_true, Bool.and_eq_true, decide_eq_true_eq] at this
  simp only [Tm.k]
  rcases this with (h | h) | h <;> first | exact h.1 | exact h.1.1 | exact h.1.1.1
 exact ⟨⟨Tm.valid_okV hk.1, Tm.valid_nodes hk.1⟩, hk.2⟩
abbrev tf_R10_9 := zi tI_3 (zi zI_3 (zi underlying3 (zi tI_4 (zi zI_4 (zi underlying4 (zi tI_26 (zi zI_26 (zi eI_26 (zi eB_26 (zi eZ_26 (zi underlying26 (zi tI_29 (zi zI_29 (zi eI_29 (zi eB_29 (zi eZ_29 (zi underlying29 (zi tI_31 (zi zI_31 (zi eI_31 (zi eB_31 (zi eZ_31 underlying31))))))))))))))))))))))
theorem c_spec_Solve (p : List Cl) (q : List Tm) (most fuel : Int) (st : zy7) :
 zq7 prog 9 [.slice (p.map clAv), .slice (q.map Tm.av), .int .i64 most, .int .i64 fuel] st (fun r st' => r = .tup [.slice ((solveS p (fun _ l => l) q most fuel).1.map ansAv), .int .i64 (solveS p (fun _ l => l) q most fuel).2] ∧ st' = st) := by
 refine zq7.done ?_
 have hbad : solveOk p q most fuel = false → ∀ {st'}, st' = st → (AV.tup [AV.fslice [], .int .i64 9]).soft = .tup [.slice ((solveS p (fun _ l => l) q most fuel).1.map ansAv), .int .i64 (solveS p (fun _ l => l) q most fuel).2] ∧ Drops st' st := fun h _ e => by
  subst e
  unfold solveS
  rw [if_neg (by rw [h]; simp)]
  exact ⟨by simp only [soft_agg, soft_tup, soft_int, soft_bool, soft_str, soft_slice, soft_fslice, soft_ptr, soft_pptr, soft_map, soft_mslice, Tm.soft, List.map_cons, List.map_nil], Drops.refl _⟩
 refine zw6 [1000000] func9 ntmps9 rfl rfl (by kernel_rfl) (by decide +kernel) (by show 4 ≤ _; decide +kernel) ?_
 intro _
 simp -implicitDefEqProofs only [List.length_map, evF, ↓evZ, implies_true, seval, tf_R10_9]
 refine (c_spec_ProgramValid p _).to ?_
 simp -implicitDefEqProofs only [List.length_map, evF, ↓evZ, implies_true, seval, tf_R10_9]
 refine zx4 (fun h => ?_) (fun h => ?_)
 case refine_2 =>
  simp -implicitDefEqProofs only [h, List.length_map, evF, ↓evZ, implies_true, seval, tf_R10_9]
  exact hbad (by simp at h; simp [solveOk, h]) rfl
 have hp : progOk p = true := by simpa using h
 simp -implicitDefEqProofs only [h, List.length_map, evF, ↓evZ, implies_true, seval, tf_R10_9]
 refine (c_spec_QueryValid q _).to ?_
 simp -implicitDefEqProofs only [h, List.length_map, evF, ↓evZ, implies_true, seval, tf_R10_9]
 refine zx4 (fun h2 => ?_) (fun h2 => ?_)
 case refine_2 =>
  simp -implicitDefEqProofs only [h2, List.length_map, evF, ↓evZ, implies_true, seval, tf_R10_9]
  exact hbad (by simp at h2; simp [solveOk, h2]) rfl
 have hq : queryOk q = true := by simpa using h2
 simp -implicitDefEqProofs only [h2, List.length_map, evF, ↓evZ, implies_true, seval, tf_R10_9]
 refine zx4 (fun h3 => ?_) (fun h3 => ?_)
 case refine_2 =>
  simp -implicitDefEqProofs only [h3, List.length_map, evF, ↓evZ, implies_true, seval, tf_R10_9]
  exact hbad (by simp at h3; simp only [solveOk]; rw [show decide (0 ≤ most) = false from decide_eq_false (by omega)]; simp) rfl
 have h3' : 0 ≤ most := by simpa using h3
 simp -implicitDefEqProofs only [h3, List.length_map, evF, ↓evZ, implies_true, seval, tf_R10_9]
 refine zx4 (fun h4 => ?_) (fun h4 => ?_)
 case refine_2 =>
  simp -implicitDefEqProofs only [h4, List.length_map, evF, ↓evZ, implies_true, seval, tf_R10_9]
  exact hbad (by simp at h4; simp only [solveOk]; rw [show decide (most ≤ 20) = false from decide_eq_false (by omega)]; simp) rfl
 have h4' : most ≤ 20 := by simpa using h4
 simp -implicitDefEqProofs only [h4, List.length_map, evF, ↓evZ, implies_true, seval, tf_R10_9]
 refine zx4 (fun h5 => ?_) (fun h5 => ?_)
 case refine_2 =>
  simp -implicitDefEqProofs only [h5, List.length_map, evF, ↓evZ, implies_true, seval, tf_R10_9]
  exact hbad (by simp at h5; simp only [solveOk]; rw [show decide (0 ≤ fuel) = false from decide_eq_false (by omega)]; simp) rfl
 have h5' : 0 ≤ fuel := by simpa using h5
 simp -implicitDefEqProofs only [h5, List.length_map, evF, ↓evZ, implies_true, seval, tf_R10_9]
 refine zq4 (fun h6 => ?_) (fun h6 => ?_)
 · simp -implicitDefEqProofs only [List.length_map, evF, ↓evZ, implies_true, seval, tf_R10_9]
   exact hbad (by simp at h6; simp only [solveOk]; rw [show decide (fuel ≤ 300) = false from decide_eq_false (by omega)]; simp) rfl
 have h6' : fuel ≤ 300 := by simpa using h6
 obtain ⟨p1, p2⟩ := progOk_X hp
 obtain ⟨q1, q2⟩ := queryOk_X hq
 obtain ⟨m, rfl⟩ := Int.eq_ofNat_of_zero_le h3'
 obtain ⟨f, rfl⟩ := Int.eq_ofNat_of_zero_le h5'
 simp -implicitDefEqProofs only [List.length_map, evF, ↓evZ, implies_true, seval, tf_R10_9]
 refine (c_l6Run p2 p1 q2 q1 (by omega) (by omega) _).to ?_
 simp -implicitDefEqProofs only [List.length_map, evF, ↓evZ, implies_true, seval, tf_R10_9]
 refine ⟨?_, Drops.refl _⟩
 have hok : solveOk p q m f = true := by simp [solveOk, hp, hq, h4', h6']
 unfold solveS
 rw [if_pos hok]
 simp only [soft_agg, soft_tup, soft_int, soft_bool, soft_str, soft_slice, soft_fslice, soft_ptr, soft_pptr, soft_map, soft_mslice, Tm.soft, List.map_cons, List.map_nil, Int.toNat_natCast]
end Go.AW

/- The answers of a search are valid terms. -/
namespace Go.AW
set_option linter.unusedSimpArgs false
set_option linter.unusedVariables false
def AnsOk (vars : List Int) (a : List Tm) : Prop := a.length = vars.length ∧ a.all Tm.valid = true
theorem ansR_ok {N : Nat} {σ : Sub} (hg : IsGood σ) (ho : AllS (OkX N) σ) {vars : List Int} (hv : ∀ v ∈ vars, 0 ≤ v ∧ v < (N : Int)) {a : List Tm} (h : ansR σ vars = some a) : AnsOk vars a := by
 obtain ⟨rk, B, G⟩ := hg.rs
 unfold ansR at h
 split at h
 · rename_i hh
   cases h
   obtain ⟨h1, h2⟩ := hh
   have hok : ∀ t ∈ vars.map (rs σ), OkX N t := fun t ht => by
    obtain ⟨v, hvm, rfl⟩ := List.mem_map.1 ht
    have hf := List.all_eq_true.1 h1 _ ht
    unfold fitT at hf
    simp only [Bool.and_eq_true, decide_eq_true_eq] at hf
    exact ⟨G.okV ho.okV v (hv v hvm).1 (hv v hvm).2, hf.2⟩
   exact ⟨by rw [renumL_one_ok hok, List.length_map], by rw [renumL_valid hok h1, decide_eq_true_eq]; exact h2⟩
 · cases h
theorem rRun_ok {p : List Cl} (hp : ∀ c ∈ p, ClX c ∧ c.2.length ≤ 6) (hpl : p.length ≤ 20) {cnd : Tm → List Nat → List Nat} (hd : ∀ t l, (∀ i ∈ cnd t l, i ∈ l) ∧ (cnd t l).length ≤ l.length) {vars : List Int} (hv : ∀ v ∈ vars, 0 ≤ v ∧ v < 26) :
 ∀ (n most fuel : Nat) (s : RS) (B : Nat), most + fuel ≤ n → RsA p B s → B + 26 * fuel ≤ 8000 → (rRun p cnd vars most fuel s).1.length ≤ most ∧ ∀ a ∈ (rRun p cnd vars most fuel s).1, AnsOk vars a := by
 intro n
 induction n with
 | zero =>
  intro most fuel s B hn hs hB
  obtain rfl : most = 0 := by omega
  obtain rfl : fuel = 0 := by omega
  cases hg : s.goals with
  | nil => rw [rRun_nil hg]; simp
  | cons g rest => rw [rRun_cons hg]; simp
 | succ n ih =>
  intro most fuel s B hn hs hB
  cases hg : s.goals with
  | nil =>
   rw [rRun_nil hg]
   by_cases hm : most = 0
   · rw [if_pos hm]; simp
   rw [if_neg hm]
   cases ha : ansR s.σ vars with
   | none => simp
   | some a =>
    have hok := ansR_ok hs.a.good hs.a.ok (fun v h => ⟨(hv v h).1, by have := (hv v h).2; have := hs.l.1; omega⟩) ha
    simp only
    cases hb : rBack p s.chs.length s.chs with
    | none =>
     simp only [List.length_cons, List.length_nil, List.mem_cons, List.not_mem_nil, or_false]
     exact ⟨by omega, fun x hx => by rw [hx]; exact hok⟩
    | some s' =>
     obtain ⟨h1, h2⟩ := ih (most - 1) fuel s' B (by omega) (hs.back hp (by omega) hb) hB
     simp only [List.length_cons, List.mem_cons]
     refine ⟨by omega, fun x hx => ?_⟩
     rcases hx with rfl | hx
     · exact hok
     · exact h2 x hx
  | cons g rest =>
   rw [rRun_cons hg]
   by_cases hf : fuel = 0
   · rw [if_pos hf]; simp
   rw [if_neg hf]
   cases hst : rStep p cnd s g rest with
   | stop e => simp
   | go s' => exact ih most (fuel - 1) s' (B + 26) (by omega) (hs.step hp (by omega) (by omega) hd hg hst) (by omega)
   | fail =>
    simp only
    cases hb : rBack p s.chs.length s.chs with
    | none => simp
    | some s' => exact ih most (fuel - 1) s' B (by omega) (hs.back hp (by omega) hb) (by omega)
theorem qvars_ok {q : List Tm} (hq : ∀ t ∈ q, OkX 26 t ∧ t.k = 3) : (∀ v ∈ tmsVars q [], 0 ≤ v ∧ v < 26) ∧ (tmsVars q []).length ≤ 26 := by
 have hv : ∀ v ∈ tmsVars q [], 0 ≤ v ∧ v < 26 := fun v hv => by
  rcases (tmsVars_mem q [] fun t ht => (hq t ht).1.1.2.1).1 hv with h | ⟨t, ht, h⟩
  · cases h
  · exact (hq t ht).1.1.2.2 v h
 refine ⟨hv, ?_⟩
 have hnd := tmsVars_nodup q [] (fun t ht => Tm.cv_wf t (hq t ht).1.1.2.1) List.nodup_nil
 exact nodup_VN (N := 26) hnd fun n hn => hv n hn
theorem solveS_ok (p : List Cl) {cnd : Tm → List Nat → List Nat} (hd : ∀ t l, (∀ i ∈ cnd t l, i ∈ l) ∧ (cnd t l).length ≤ l.length) (q : List Tm) (most fuel : Int) : (solveS p cnd q most fuel).1.length ≤ 20 ∧ ∀ a ∈ (solveS p cnd q most fuel).1, a.length ≤ 26 ∧ a.all Tm.valid = true := by
 unfold solveS
 split
 · rename_i h
   simp only [solveOk, Bool.and_eq_true, decide_eq_true_eq] at h
   obtain ⟨hp, hq, h1, h2, h3, h4⟩ := h
   obtain ⟨p1, p2⟩ := progOk_X hp
   obtain ⟨q1, q2⟩ := queryOk_X hq
   obtain ⟨v1, v2⟩ := qvars_ok q2
   obtain ⟨r1, r2⟩ := rRun_ok p2 p1 hd v1 _ most.toNat fuel.toNat (rStart q) 26 (Nat.le_refl _) (RsA.start q2 q1) (by omega)
   unfold solveR
   refine ⟨by omega, fun a ha => ?_⟩
   obtain ⟨h5, h6⟩ := r2 a ha
   exact ⟨by omega, h6⟩
 · simp
theorem mks_nodes (t : Tm) : t.mks = 3 * t.nodes := by
 induction t using Tm.ind with
 | h k n s ts ih =>
  rw [Tm.mks_mk, Tm.nodes_mk]
  have : ∀ l : List Tm, (∀ t ∈ l, t.mks = 3 * t.nodes) → sumL Tm.mks l = 3 * sumL Tm.nodes l := by
   intro l
   induction l with
   | nil => intro _; rfl
   | cons x l ih2 => intro h; simp only [sumL, h x (by simp), ih2 fun y hy => h y (by simp [hy])]; omega
  rw [this ts ih]; omega
theorem ans_mks : ∀ {a : List Tm}, a.all Tm.valid = true → sumL Tm.mks a ≤ 360 * a.length
 | [], _ => by simp [sumL]
 | t :: a, h => by
  simp only [List.all_cons, Bool.and_eq_true] at h
  have h1 := ans_mks h.2
  have h2 := Tm.valid_nodes h.1
  simp only [sumL, mks_nodes t, List.length_cons]
  omega
theorem anss_mks : ∀ {l : List (List Tm)}, (∀ a ∈ l, a.length ≤ 26 ∧ a.all Tm.valid = true) → sumL (fun a => sumL Tm.mks a) l ≤ 9360 * l.length
 | [], _ => by simp [sumL]
 | a :: l, h => by
  have h1 := anss_mks (l := l) fun x hx => h x (by simp [hx])
  obtain ⟨h2, h3⟩ := h a (by simp)
  have h4 := ans_mks h3
  simp only [sumL, List.length_cons]
  omega
end Go.AW


namespace Go.AW
open Go.Proofs.Tryz
set_option linter.unusedSimpArgs false
set_option linter.unusedVariables false
set_option maxRecDepth 100000
theorem MadeT.ofMadeI {st st' : zy7} {a o : AV} {k : IntKind} {n : Int} (h : Made st a o st') : MadeT st [a, .int k n] (.tup [o, .int k n]) st' := by
 obtain ⟨bs, h1, h2, h3, h4⟩ := h
 exact ⟨_, bs, rfl, h1, h2, ownL_2.2 ⟨o, .int k n, bs, [], rfl, by simp, h3, ⟨rfl, rfl⟩⟩, h4⟩
theorem MadeT.toMadeI {st st' : zy7} {a r : AV} {k : IntKind} {n : Int} (h : MadeT st [a, .int k n] r st') : ∃ o, r = .tup [o, .int k n] ∧ Made st a o st' := by
 obtain ⟨os, bs, hr, h1, h2, h3, h4⟩ := h
 obtain ⟨o1, o2, b1, b2, rfl, rfl, h5, h6⟩ := ownL_2.1 h3
 simp only [Own] at h6
 obtain ⟨rfl, rfl⟩ := h6
 rw [List.append_nil] at *
 exact ⟨o1, hr, b1, h1, h2, h5, h4⟩
structure Fill (st : zy7) (L : List AV) (b i : Nat) (os : List AV) (bs : List Nat) (s : zy7) : Prop where
 len : os.length = i
 own : OwnL s (L.take i) os bs
 nd : bs.Nodup
 new : ∀ q ∈ bs, st q = none
 bn : L ≠ [] → b ∉ bs
 cell : L ≠ [] → s b = some (.cells (os.flatMap AV.cells ++ (L.drop i).flatMap AV.cells))
 keep : ∀ q, q ∉ bs → (L ≠ [] → q ≠ b) → s q = st q
theorem Fill.start {st : zy7} {L : List AV} {b : Nat} : Fill st L b 0 [] [] (accS st b L) := by
 refine ⟨rfl, by simp [OwnL], List.nodup_nil, by simp, by simp, fun h => ?_, fun q _ h => ?_⟩
 · rw [accS_cons h, zy7.upd_same]; rfl
 · cases L with
   | nil => rfl
   | cons x l => exact accS_ne (h (by simp))
theorem Fill.done {st s : zy7} {L os : List AV} {b w : Nat} {bs : List Nat} (h : Fill st L b L.length os bs s) (hb : L ≠ [] → st b = none) (hw : ∀ e ∈ L, e.width = w) : Made st (.slice L) (accV w b L) s := by
 obtain ⟨h1, h2, h3, h4, h5, h6, h7⟩ := h
 rw [List.take_length] at h2
 by_cases hL : L = []
 · subst hL
   simp only [OwnL] at h2
   obtain ⟨rfl, rfl⟩ := h2
   exact ⟨[], List.nodup_nil, by simp, .inl ⟨rfl, rfl, rfl⟩, fun q hq => h7 q hq (fun h => absurd rfl h)⟩
 · refine ⟨b :: bs, List.nodup_cons.2 ⟨h5 hL, h3⟩, fun q hq => ?_, ?_, fun q hq => ?_⟩
   · rcases List.mem_cons.1 hq with rfl | hq
     · exact hb hL
     · exact h4 q hq
   · rw [accV_cons hL]
     refine .inr ⟨b, bs, os, w, rfl, rfl, ?_, h2, hw⟩
     have := h6 hL
     rw [List.drop_length] at this
     simpa using this
   · simp only [List.mem_cons, not_or] at hq
     exact h7 q hq.2 fun _ => hq.1
theorem Fill.step {st s s2 : zy7} {L os B : List AV} {b i : Nat} {bs bx : List Nat} {e r : AV} (h : Fill st L b i os bs s) (he : L[i]? = some (.agg [e])) (hB : (L.drop (i + 1)).flatMap AV.cells = B) (m1 : bx.Nodup) (m2 : ∀ q ∈ bx, s q = none) (m3 : Own s2 e r bx) (m4 : ∀ q, q ∉ bx → s2 q = s q) :
 Fill st L b (i + 1) (os ++ [.agg [r]]) (bs ++ bx) (s2.upd b (.cells (os.flatMap AV.cells ++ [r] ++ B))) := by
 obtain ⟨h1, h2, h3, h4, h5, h6, h7⟩ := h
 have hi : i < L.length := (List.getElem?_eq_some_iff.1 he).1
 have hL : L ≠ [] := by rintro rfl; simp at hi
 have hsol := OwnL.solid _ _ _ h2
 have hsome : ∀ q ∈ bs, s q ≠ none := fun q hq => by obtain ⟨cs, e1, _⟩ := hsol.2 q hq; rw [e1]; simp
 have hsb := h6 hL
 have hbx : b ∉ bx := fun hq => by have := m2 b hq; rw [hsb] at this; cases this
 have hdis : ∀ q ∈ bs, q ∉ bx := fun q hq hq' => hsome q hq (m2 q hq')
 have hbs : ∀ q ∈ bs, (s2.upd b (.cells (os.flatMap AV.cells ++ [r] ++ B))) q = s q := fun q hq => by
  rw [zy7.upd_ne _ _ (by rintro rfl; exact h5 hL hq), m4 q (hdis q hq)]
 refine ⟨by simp [h1], ?_, List.nodup_append.2 ⟨h3, m1, fun a ha c hc e => hdis a ha (e ▸ hc)⟩, fun q hq => ?_, fun _ hq => ?_, fun _ => ?_, fun q hq hne => ?_⟩
 · rw [List.take_add_one, he, Option.toList_some]
   refine h2.snoc hbs ?_
   refine own_agg1.2 ⟨r, rfl, Own.keep _ _ _ (fun x hx => ?_) m3⟩
   exact zy7.upd_ne _ _ (by rintro rfl; exact hbx hx)
 · rcases List.mem_append.1 hq with hq | hq
   · exact h4 q hq
   · have h8 : q ∉ bs := fun h => hdis q h hq
     have h9 : q ≠ b := by rintro rfl; exact hbx hq
     rw [← h7 q h8 fun _ => h9]
     exact m2 q hq
 · rcases List.mem_append.1 hq with hq | hq
   · exact h5 hL hq
   · exact hbx hq
 · rw [zy7.upd_same, hB]
   simp [AV.cells]
 · simp only [List.mem_append, not_or] at hq
   rw [zy7.upd_ne _ _ (hne hL), m4 q hq.2, h7 q hq.1 hne]
abbrev tf_T9_42 := zi tI_3 (zi zI_3 (zi underlying3 (zi tI_4 (zi zI_4 (zi underlying4 (zi tI_26 (zi zI_26 (zi eI_26 (zi eB_26 (zi eZ_26 (zi underlying26 (zi tI_29 (zi zI_29 (zi eI_29 (zi eB_29 (zi eZ_29 (zi underlying29 (zi tI_31 (zi zI_31 (zi eI_31 (zi eB_31 (zi eZ_31 (zi underlying31 (zi tI_51 (zi zI_51 (zi fI_51_0 (zi bI_51 (zi tI_120 zI_120))))))))))))))))))))))))))))
set_option maxHeartbeats 2000000 in
theorem c_impl_solve (p : List Cl) {cnd : Tm → List Nat → List Nat} (hc : ∀ (ρ : Int → Int) (t : Tm) (l : List Nat), cnd (ren ρ t) l = cnd t l) (hd : ∀ t l, (∀ i ∈ cnd t l, i ∈ l) ∧ (cnd t l).length ≤ l.length) {idx : Bool} (hcnd : CndOk p idx cnd) (hidx : idx = false)
 (q : List Tm) (most fuel : Int) (st : zy7) :
 zq7 prog 42 [.slice (p.map clAv), .slice (q.map Tm.av), .int .i64 most, .int .i64 fuel, .bool idx] st (MadeT st [.slice ((solveS p cnd q most fuel).1.map ansAv), .int .i64 (solveS p cnd q most fuel).2]) := by
 refine zq7.mono (Q := fun r st' => ∃ o, r = .tup [o, .int .i64 (solveS p cnd q most fuel).2] ∧ Made st (.slice ((solveS p cnd q most fuel).1.map ansAv)) o st') ?_ (by rintro _ _ ⟨o, rfl, h⟩; exact MadeT.ofMadeI h)
 have hcan := c_canSolve p q most fuel
 have hSok := solveS_ok p hd q most fuel
 refine zw6 [1000000] func42 ntmps42 rfl rfl (by kernel_rfl) (by decide +kernel) (by show 5 ≤ _; decide +kernel) ?_
 intro _
 simp -implicitDefEqProofs only [List.length_map, evF, ↓evZ, implies_true, seval, tf_T9_42]
 refine (hcan _).to ?_
 simp -implicitDefEqProofs only [List.length_map, evF, ↓evZ, implies_true, seval, tf_T9_42]
 refine zq4 (fun h => ?_) (fun h => ?_)
 · have hS : solveS p cnd q most fuel = ([], 9) := by
    unfold solveS
    rw [if_neg (by have h' : solveOk p q most fuel = false := by unfold solveOk; simpa only [Bool.not_eq_true'] using h
                   rw [h']; simp)]
   rw [hS]
   simp -implicitDefEqProofs only [List.length_map, evF, ↓evZ, implies_true, seval, tf_T9_42]
   exact ⟨_, rfl, [], List.nodup_nil, by simp, .inl ⟨rfl, rfl, rfl⟩, fun _ _ => rfl⟩
 have hok : solveOk p q most fuel = true := by unfold solveOk; simpa using h
 have hk := hok
 simp only [solveOk, Bool.and_eq_true, decide_eq_true_eq] at hk
 obtain ⟨kp, kq, k1, k2, k3, k4⟩ := hk
 obtain ⟨p1, p2⟩ := progOk_X kp
 obtain ⟨q1, q2⟩ := queryOk_X kq
 have hTT : solveS p cnd q most fuel = iRun p cnd (tmsVars q []) most.toNat fuel.toNat (iStart q) := by
  unfold solveS
  rw [if_pos hok, solve_sim (fun c h => (p2 c h).1) hc q2]
 rw [hTT] at hSok ⊢
 clear hTT hcan hok h
 obtain ⟨mo, rfl⟩ := Int.eq_ofNat_of_zero_le k1
 obtain ⟨fu, rfl⟩ := Int.eq_ofNat_of_zero_le k3
 rw [Int.toNat_natCast, Int.toNat_natCast] at hSok ⊢
 simp -implicitDefEqProofs only [List.length_map, evF, ↓evZ, implies_true, seval, tf_T9_42]
 refine (c_newSearch p q (fu : Int) idx (by omega) st).mono ?_
 rintro _ s1 ⟨S, c, m, rfl, hA⟩
 simp -implicitDefEqProofs only [List.length_map, evF, ↓evZ, implies_true, seval, tf_T9_42]
 refine (c_run p2 p1 hc hd hcnd hidx q2 q1 (most := mo) (fuel := fu) (by omega) (by omega) hA).mono ?_
 generalize iRun p cnd (tmsVars q []) mo fu (iStart q) = T at hSok ⊢
 rintro _ _ ⟨b, s2, rfl, rfl, hb, hD⟩
 obtain ⟨L, e⟩ := T
 simp only at hSok hb ⊢
 have hb' : L.map ansAv ≠ [] → st b = none := fun h => (hD b).1 (hb h)
 have hun : prog.underlying 26 = some (.slice 51) := by kernel_rfl
 have hlenA := accV_len (w := 1) (b := b) (l := L.map ansAv) hun
 rw [List.length_map] at hlenA
 have hwd : ∀ e ∈ L.map ansAv, e.width = 1 := fun e he => by simp only [List.mem_map] at he; obtain ⟨t, _, rfl⟩ := he; rfl
 simp -implicitDefEqProofs only [List.length_map, hlenA, accV_junk, accV_store, accV_agg, accV_cells, evF, ↓evZ, implies_true, seval, tf_T9_42]
 refine zy5 (σ := List AV × List Nat × zy7) [1000000] [10, 11, 12, 13, 32, 33] L (fun j x => Fill st (L.map ansAv) b j x.1 x.2.1 x.2.2) (fun j x => [(34, .int .i64 j)]) (fun j x => x.2.2) (by decide +kernel) ⟨([], [], accS st b (L.map ansAv)), Fill.start, zx7.drop (drops_acc2 hD) (by simp -implicitDefEqProofs only [List.length_map, hlenA, accV_junk, accV_store, accV_agg, accV_cells, evF, ↓evZ, implies_true, seval, tf_T9_42])⟩ (fun j a x hx hlt hlt' hdr hinv => ?_) (fun x hge hinv => ?_)
 case refine_2 =>
  simp -implicitDefEqProofs only [hge, List.length_map, hlenA, accV_junk, accV_store, accV_agg, accV_cells, evF, ↓evZ, implies_true, seval, tf_T9_42]
  have hinv' : Fill st (L.map ansAv) b (L.map ansAv).length x.1 x.2.1 x.2.2 := by rw [List.length_map]; exact hinv
  exact ⟨_, rfl, hinv'.done hb' hwd⟩
 obtain ⟨os, bs, s⟩ := x
 simp only at hinv
 have hw := wrap64 (n := (j : Int) + 1) (by omega) (by omega)
 have hne : L.map ansAv ≠ [] := by intro h; have := congrArg List.length h; simp at this; subst this; simp at hlt
 have hget : (L.map ansAv)[j]? = some (.agg [.slice (a.map Tm.av)]) := by rw [List.getElem?_map, hx]; rfl
 have hc2 := hinv.cell hne
 have hdr2 : ((L.map ansAv).drop j).flatMap AV.cells = [.slice (a.map Tm.av)] ++ ((L.map ansAv).drop (j + 1)).flatMap AV.cells := by
  rw [← List.map_drop, hdr, List.map_cons, List.flatMap_cons, List.map_drop]; rfl
 rw [hdr2, ← List.append_assoc] at hc2
 have hA2 : (os.flatMap AV.cells).length = j * 1 := by
  rw [hinv.own.flatLen (fun q hq => hwd q (List.mem_of_mem_take hq)), List.length_take, List.length_map, Nat.min_eq_left (by omega)]
 obtain ⟨e1, e2, e3, e4, e5, e6⟩ := midE (B := ((L.map ansAv).drop (j + 1)).flatMap AV.cells) hA2
 have hat := held_at (P := prog) (b := b) (w := 1) (i := j) eI_26 (len := (L.map ansAv).length) (by rw [List.length_map]; omega)
 have htk : List.take 1 (List.drop (j * 1) (os.flatMap AV.cells ++ [.slice (a.map Tm.av)] ++ ((L.map ansAv).drop (j + 1)).flatMap AV.cells)) = [.slice (a.map Tm.av)] := by
  rw [List.append_assoc, List.drop_append, List.drop_of_length_le (by omega), hA2]
  simp
 obtain ⟨hal, hav⟩ := hSok.2 a (List.mem_of_getElem? hx)
 rw [accV_cons hne] at hlenA ⊢
 rw [List.length_map] at hat hlenA ⊢
 simp -implicitDefEqProofs only [hlt', List.length_map, hlenA, hat, hc2, htk, e1, e2, e3, e4, e5, e6, evF, ↓evZ, implies_true, seval, tf_T9_42]
 refine (o_ownList a _ (by omega) fun x hx s => o_own x s (Tm.valid_small (List.all_eq_true.1 hav x hx))).mono ?_
 rintro r s3 ⟨bx, m1, m2, m3, m4⟩
 have hbx : b ∉ bx := fun h => by have := m2 b h; rw [hc2] at this; cases this
 have f1 := (m4 b hbx).trans hc2
 obtain ⟨hqc, hqs, hqa, hqw, hqj⟩ := Own.one' m3
 simp -implicitDefEqProofs only [List.length_map, hlenA, hat, f1, hqc, hqs, hqa, hqw, hqj, e1, e2, e3, e4, e5, e6, Nat.add_zero, List.set_cons_zero, evF, ↓evZ, implies_true, seval, tf_T9_42]
 exact ⟨(os ++ [.agg [r]], bs ++ bx, s3.upd b (.cells (os.flatMap AV.cells ++ [r] ++ ((L.map ansAv).drop (j + 1)).flatMap AV.cells))), hinv.step hget rfl m1 m2 m3 m4, zx7.mk (by simp -implicitDefEqProofs only [hw, List.length_map, hlenA, hat, f1, hqc, hqs, hqa, hqw, hqj, e1, e2, e3, e4, e5, e6, Nat.add_zero, List.set_cons_zero, evF, ↓evZ, implies_true, seval, tf_T9_42])⟩
abbrev tf_T9_12 := zi tI_3 (zi zI_3 (zi underlying3 (zi tI_4 (zi zI_4 (zi underlying4 (zi tI_26 (zi zI_26 (zi eI_26 (zi eB_26 (zi eZ_26 (zi underlying26 (zi tI_29 (zi zI_29 (zi eI_29 (zi eB_29 (zi eZ_29 (zi underlying29 (zi tI_31 (zi zI_31 (zi eI_31 (zi eB_31 (zi eZ_31 underlying31))))))))))))))))))))))
theorem c_impl_Solve (p : List Cl) (q : List Tm) (most fuel : Int) (st : zy7) :
 zq7 prog 12 [.slice (p.map clAv), .slice (q.map Tm.av), .int .i64 most, .int .i64 fuel] st (MadeT st [.slice ((solveS p (fun _ l => l) q most fuel).1.map ansAv), .int .i64 (solveS p (fun _ l => l) q most fuel).2]) := by
 refine zq7.mono (Q := fun r st' => ∃ o, r = .tup [o, .int .i64 (solveS p (fun _ l => l) q most fuel).2] ∧ Made st (.slice ((solveS p (fun _ l => l) q most fuel).1.map ansAv)) o st') ?_ (by rintro _ _ ⟨o, rfl, h⟩; exact MadeT.ofMadeI h)
 refine zw6 [1000000] func12 ntmps12 rfl rfl (by kernel_rfl) (by decide +kernel) (by show 4 ≤ _; decide +kernel) ?_
 intro _
 simp -implicitDefEqProofs only [List.length_map, evF, ↓evZ, implies_true, seval, tf_T9_12]
 refine (c_impl_solve p (cnd := fun _ l => l) (fun _ _ _ => rfl) (fun _ l => ⟨fun _ h => h, Nat.le_refl _⟩) (idx := false) (fun _ => rfl) rfl q most fuel st).mono ?_
 intro r s1 h
 obtain ⟨o, rfl, hM⟩ := h.toMadeI
 obtain ⟨hqc, hqs, hqa, hqw, hqj⟩ := Own.one' hM.choose_spec.2.2.1
 simp -implicitDefEqProofs only [List.length_map, hqc, hqs, hqa, hqw, hqj, evF, ↓evZ, implies_true, seval, tf_T9_12]
 exact ⟨_, rfl, hM⟩
end Go.AW


namespace Go.AW
open Go.Proofs.Tryz
set_option linter.unusedSimpArgs false
set_option maxRecDepth 100000
abbrev tf_MkTm_46 := zi tI_3 (zi zI_3 (zi underlying3 (zi tI_5 (zi zI_5 (zi underlying5 (zi tI_9 (zi zI_9 (zi underlying9 (zi tI_40 (zi zI_40 (zi eI_40 (zi eB_40 (zi eZ_40 underlying40)))))))))))))
theorem c_markText (k : Int) (st : zy7) (h1 : k ≤ 1099511627776) : zq7 prog 46 [.int .i64 k] st (fun r st' => r = .str (mt k) ∧ st' = st) := by
 refine zw6 [] func46 ntmps46 rfl rfl (by kernel_rfl) (by decide +kernel) (by show 1 ≤ _; decide +kernel) ?_
 intro _
 simp -implicitDefEqProofs only [evF, ↓evZ, implies_true, seval, tf_MkTm_46]
 refine zq4 (fun h => ?_) (fun h => ?_)
 · simp -implicitDefEqProofs only [evF, ↓evZ, implies_true, seval, tf_MkTm_46]
   simp only [decide_eq_true_eq] at h
   simp only [mt, h, if_true]
 simp only [decide_eq_false_iff_not] at h
 obtain ⟨n, rfl⟩ := Int.eq_ofNat_of_zero_le (show 0 ≤ k by omega)
 have hmt : mt (n : Int) = ⟨(109 :: mtDigs n []).toArray⟩ := by simp only [mt, h, if_false, Int.toNat_natCast]
 rw [hmt]
 simp -implicitDefEqProofs only [evF, ↓evZ, implies_true, seval, tf_MkTm_46]
 refine zw5 (σ := Nat × List UInt8) [] [2] (fun p => mtDigs p.1 p.2 = mtDigs n [] ∧ p.2.length + p.1 ≤ 1099511627776) (fun p => [(0, .int .i64 p.1), (3, .str ⟨p.2.toArray⟩)]) (fun _ => st) (fun p => p.1) (by decide +kernel)
  ⟨(n, []), ⟨rfl, by simp; omega⟩, zx7.mk (by simp -implicitDefEqProofs only [evF, ↓evZ, implies_true, seval, tf_MkTm_46])⟩ ?_
 rintro ⟨k, acc⟩ ⟨hd, hb⟩
 simp only at hd hb
 simp -implicitDefEqProofs only [evF, ↓evZ, implies_true, seval, tf_MkTm_46]
 refine zq4 (fun h2 => ?_) (fun h2 => ?_)
 case refine_2 =>
  simp only [decide_eq_false_iff_not] at h2
  obtain rfl : k = 0 := by omega
  rw [mtDigs_zero] at hd
  have hsz : (⟨#[109]⟩ : ByteArray).size + (⟨acc.toArray⟩ : ByteArray).size ≤ maxLen := by
   show 1 + acc.toArray.size ≤ maxLen
   unfold maxLen
   simp; omega
  simp -implicitDefEqProofs only [hsz, if_pos, evF, ↓evZ, implies_true, seval, tf_MkTm_46]
  rw [← hd]
  congr 1
 simp only [decide_eq_true_eq] at h2
 have hr : ((k : Int)).tmod 10 = ((k % 10 : Nat) : Int) := by rw [Int.tmod_eq_emod_of_nonneg (by omega)]; omega
 have hq : ((k : Int)).tdiv 10 = ((k / 10 : Nat) : Int) := by rw [Int.tdiv_eq_ediv_of_nonneg (by omega)]; omega
 have hw := wrap64 (n := 48 + ((k % 10 : Nat) : Int)) (by omega) (by omega)
 have hw8 : IntKind.wrap .u8 (48 + ((k % 10 : Nat) : Int)) = ((48 + k % 10 : Nat) : Int) := by rw [IntKind.wrap_u8]; omega
 have hw2 := wrap64 (n := ((k / 10 : Nat) : Int)) (by omega) (by omega)
 have hby : bytesOf [AV.int .u8 ((48 + k % 10 : Nat) : Int)] = some [UInt8.ofNat (48 + k % 10)] := by
  simp only [bytesOf, Int.toNat_natCast, Option.map_some]
 have hsz : (⟨#[UInt8.ofNat (48 + k % 10)]⟩ : ByteArray).size + (⟨acc.toArray⟩ : ByteArray).size ≤ maxLen := by
  show 1 + acc.toArray.size ≤ maxLen
  unfold maxLen
  simp; omega
 simp -implicitDefEqProofs only [aConvert, hr, hq, hw, hw8, hw2, hby, hsz, if_pos, evF, ↓evZ, implies_true, seval, tf_MkTm_46]
 refine ⟨(k / 10, UInt8.ofNat (48 + k % 10) :: acc), by omega, ⟨by rw [← mtDigs_pos (by omega)]; exact hd, by simp only [List.length_cons]; omega⟩, zx7.mk (by simp -implicitDefEqProofs only [ba_append, evF, ↓evZ, implies_true, seval, tf_MkTm_46])⟩
abbrev tf_MkTm_17 := zi tI_3 (zi zI_3 (zi underlying3 (zi tI_9 (zi zI_9 (zi underlying9 (zi tI_31 (zi zI_31 (zi eI_31 (zi eB_31 (zi eZ_31 (zi underlying31 (zi tI_42 (zi zI_42 (zi fI_42_0 (zi fI_42_1 (zi fI_42_2 (zi fI_42_3 bI_42)))))))))))))))))
theorem c_markTermS : ∀ (l : List Tm) (j : Int) (o : AV) (bs : List Nat) (st : zy7), Own st (.slice (l.map Tm.av)) o bs → bs.Nodup → 0 ≤ j → j + sumL Tm.mks l ≤ 1099511627776 →
 zq7 prog 17 [o, .int .i64 j] st (Marked st (.slice ((markL Tm.mark Tm.mks l j).map Tm.av)) o bs (j + sumL Tm.mks l))
 | l, j, o, bs, st, hO, hnd, hj0, hj1 => by
  have IH := fun (k n : Int) (s : ByteArray) (ts : List Tm) (hm : Tm.mk k n s ts ∈ l) => c_markTermS ts
  obtain ⟨hlen, haL⟩ := hO.len
  rw [List.length_map] at hlen
  have haL := haL prog 31 _ underlying31
  rw [List.length_map] at haL
  refine zw6 [] func17 ntmps17 rfl rfl (by kernel_rfl) (by decide +kernel) (by show 2 ≤ _; decide +kernel) ?_
  simp only [fitsL]
  intro ⟨hf, _⟩
  have hl := hlen hf
  clear hf hlen
  simp -implicitDefEqProofs only [evF, ↓evZ, implies_true, seval, tf_MkTm_17]
  refine zy5 (σ := List Tm × Int × zy7) [] [0, 4] l
   (fun i p => p.1.length = i ∧ p.1 ++ markL Tm.mark Tm.mks (l.drop i) p.2.1 = markL Tm.mark Tm.mks l j ∧ 0 ≤ p.2.1 ∧ p.2.1 + sumL Tm.mks (l.drop i) = j + sumL Tm.mks l ∧ Own p.2.2 (.slice ((p.1 ++ l.drop i).map Tm.av)) o bs ∧ ∀ q, q ∉ bs → p.2.2 q = st q)
   (fun i p => [(1, .int .i64 p.2.1), (5, .int .i64 i)]) (fun _ p => p.2.2) (by decide +kernel)
   ⟨([], j, st), ⟨rfl, rfl, hj0, rfl, hO, fun _ _ => rfl⟩, zx7.mk (by simp -implicitDefEqProofs only [evF, ↓evZ, implies_true, seval, tf_MkTm_17])⟩ (fun i x p hx hlt hlt' hdr hinv => ?_) (fun p hge hinv => ?_)
  case refine_2 =>
   obtain ⟨done, k, s⟩ := p
   obtain ⟨i1, i2, i3, i4, i5, i6⟩ := hinv
   simp only at i1 i2 i3 i4 i5 i6
   simp -implicitDefEqProofs only [haL, hge, evF, ↓evZ, implies_true, seval, tf_MkTm_17]
   simp only [List.drop_length, markL, List.append_nil, sumL] at i2 i4 i5
   exact ⟨by rw [← i4]; simp, by rw [← i2]; exact i5, i6⟩
  obtain ⟨done, k, s⟩ := p
  obtain ⟨i1, i2, i3, i4, i5, i6⟩ := hinv
  simp only at i1 i2 i3 i4 i5 i6
  rw [hdr] at i2 i4 i5
  obtain ⟨xk, xn, xs, xts⟩ := x
  simp only [sumL, Tm.mks_mk] at i4
  have hget := marked_get (av := Tm.av) (done := done) (x := .mk xk xn xs xts) (rest := l.drop (i + 1))
  obtain ⟨b, bs', w, A, oe, bo, B, rfl, hbs, hsb, hA, hoe, hbo, hbn, hsub, hw, hi, hfoc⟩ := i5.focus hnd hget
  rw [Tm.av_width] at hw
  subst hw
  rw [i1] at hA
  obtain ⟨q, rfl, hq⟩ := own_Tm.1 hoe
  have hlen2 : ((done ++ Tm.mk xk xn xs xts :: l.drop (i + 1)).map Tm.av).length = l.length := by
   rw [List.length_map, List.length_append, List.length_cons, List.length_drop, i1]; omega
  rw [hlen2] at haL hfoc ⊢
  have hat := held_at (b := b) (len := l.length) (w := 4) (i := i) eI_31 hlt
  have hbnd : ∀ (c : Nat), c < 4 → i * 4 + c + 1 ≤ A.length + (4 + B.length) := fun c hc => by rw [hA]; omega
  have hw1 := wrap64 (n := k + 1) (by omega) (by omega)
  have hw2 := wrap64 (n := k + 1 + 1) (by omega) (by omega)
  have hw3 := wrap64 (n := k + 1 + 1 + 1) (by omega) (by omega)
  have hw4 := wrap64 (n := (i : Int) + 1) (by omega) (by omega)
  obtain ⟨e1, e2, e3, e4, e5, e6⟩ := midE (B := B) hA
  simp -implicitDefEqProofs only [haL, hlt', hat, hsb, hw1, hw2, hw3, e1, e2, e3, e4, e5, e6, Nat.add_zero, List.set_cons_zero, List.set_cons_succ, zy7.upd_upd, evF, ↓evZ, implies_true, seval, tf_MkTm_17]
  refine (c_markText (k + 1 + 1) _ (by omega)).to ?_
  simp -implicitDefEqProofs only [hat, e1, e2, e3, e4, e5, e6, Nat.add_zero, List.set_cons_zero, List.set_cons_succ, zy7.upd_upd, hw1, hw2, hw3, evF, ↓evZ, implies_true, seval, tf_MkTm_17]
  have hqs : ∀ (o : AO), Own (s.upd b o) (.slice (xts.map Tm.av)) q bo := fun o => Own.keep _ _ _ (fun x hx => zy7.upd_ne _ _ (fun e => hbn (e ▸ hx))) hq
  have hqa : q.isAgg = false := (Own.shape hq).1
  simp -implicitDefEqProofs only [hqa, evF, ↓evZ, implies_true, seval, tf_MkTm_17]
  refine (IH xk xn xs xts (List.mem_of_getElem? hx) (k + 1 + 1 + 1) q bo _ (hqs _) hbo (by omega) (by omega)).mono ?_
  rintro _ s2 ⟨rfl, hq2, hk2⟩
  simp -implicitDefEqProofs only [hw4, evF, ↓evZ, implies_true, seval, tf_MkTm_17]
  refine ⟨(done ++ [(Tm.mk xk xn xs xts).mark k], k + 1 + 1 + 1 + sumL Tm.mks xts, s2), ⟨?_, ?_, ?_, ?_, ?_, ?_⟩, zx7.mk (by simp -implicitDefEqProofs only [evF, ↓evZ, implies_true, seval, tf_MkTm_17])⟩
  · simp [i1]
  · simp only [markL, Tm.mks_mk] at i2
    rw [← i2, show k + ((3 + sumL Tm.mks xts : Nat) : Int) = k + 1 + 1 + 1 + (sumL Tm.mks xts : Int) by omega]
    simp
  · simp only; omega
  · simp only; omega
  · have := hfoc s2 ((Tm.mk xk xn xs xts).mark k).av (.agg [.int .i64 k, .int .i64 (k + 1), .str (mt (k + 1 + 1)), q]) (Tm.av_width _) (fun x hx hxb hxo => by rw [hk2 x hxo, zy7.upd_ne _ _ hxb]) (by rw [hk2 b hbn, zy7.upd_same]; rfl) (by rw [Tm.mark_mk]; exact own_Tm.2 ⟨q, rfl, hq2⟩)
    rw [marked_set] at this
    exact this
  · intro x hx
    have hxb : x ≠ b := fun e => hx (by rw [hbs]; simp [e])
    have hxo : x ∉ bo := fun e => hx (hsub x e)
    show s2 x = st x
    rw [hk2 x hxo, zy7.upd_ne _ _ hxb, i6 x hx]
termination_by l => SizeOf.sizeOf l
decreasing_by have := List.sizeOf_lt_of_mem hm; simp only [Tm.mk.sizeOf_spec] at this; omega
end Go.AW


namespace Go.AW
open Go.Proofs.Tryz
set_option linter.unusedSimpArgs false
set_option maxRecDepth 100000
abbrev tf_MkO_11 := zi tI_3 (zi zI_3 (zi underlying3 (zi tI_23 (zi zI_23 (zi eI_23 (zi eB_23 (zi eZ_23 (zi underlying23 (zi tI_31 (zi zI_31 (zi eI_31 (zi eB_31 (zi eZ_31 (zi underlying31 (zi tI_42 (zi zI_42 (zi fI_42_0 (zi fI_42_1 (zi fI_42_2 (zi fI_42_3 (zi bI_42 (zi tI_68 (zi zI_68 (zi fI_68_0 (zi fI_68_1 (zi fI_68_2 (zi fI_68_3 bI_68)))))))))))))))))))))))))))
theorem o_toTermS (l : List Tm) (st : zy7) (hb : l.length ≤ 1048576) (hc : ∀ x ∈ l, ∀ (st : zy7), zq7 prog 41 [Tm.av x] st (Made st (Tm.av x))) :
 zq7 prog 11 [.slice (l.map Tm.av)] st (Made st (.slice (l.map Tm.av))) := by
 refine zw6 [] func11 ntmps11 rfl rfl (by kernel_rfl) (by decide +kernel) (by show 1 ≤ _; decide +kernel) ?_
 intro _
 simp -implicitDefEqProofs only [List.length_map, aMakeSlice, evF, ↓evZ, implies_true, seval, tf_MkO_11]
 refine ⟨by omega, by omega, by omega, ?_⟩
 intro b hn
 rw [Int.toNat_natCast, madeAV_eq _ (by simp)]
 refine zy5 (σ := List AV × List Nat × zy7) [] [0, 2, 3] l (fun i p => OwnTo (l.map Tm.av) [.int .i64 0, .int .i64 0, .str ⟨#[]⟩, .fslice []] b st i p) (fun i _ => [(4, .int .i64 i)]) (fun _ p => p.2.2) (by decide +kernel)
  ⟨([], [], _), ?_, zx7.mk (by simp -implicitDefEqProofs only [evF, ↓evZ, implies_true, seval, tf_MkO_11])⟩ (fun i x p hx hlt hlt' hdr hinv => ?_) (fun p hge hinv => ?_)
 · exact OwnTo.start hn (by rw [List.length_map])
 case refine_3 =>
  obtain ⟨os, bs, s⟩ := p
  simp -implicitDefEqProofs only [List.length_map, hge, evF, ↓evZ, implies_true, seval, tf_MkO_11]
  exact hinv.done (List.length_map _) (fun e he => by simp only [List.mem_map] at he; obtain ⟨t, _, rfl⟩ := he; exact Tm.av_width t)
 obtain ⟨os, bs, s⟩ := p
 simp -implicitDefEqProofs only [List.length_map, hlt', ev_at (av := Tm.av) eI_23 hx (Tm.av_width x), Tm.av_agg, Tm.av_width, evF, ↓evZ, implies_true, seval, tf_MkO_11]
 refine (hc x (List.mem_of_getElem? hx) _).mono ?_
 rintro r s2 hmade
 obtain ⟨A, B, hs2, hA, hrw, hrs, hnext⟩ := hinv.step hmade (show (l.map Tm.av)[i]? = some (Tm.av x) by rw [List.getElem?_map, hx]; rfl) (Tm.av_width x) (fun e he => by simp only [List.mem_map] at he; obtain ⟨t, _, rfl⟩ := he; exact Tm.av_width t) rfl (Tm.av_store x) (.inl (Tm.av_agg x))
 have hat := held_at (b := b) (len := l.length) (w := 4) (i := i) eI_31 hlt
 obtain ⟨hp1, hp2⟩ := partE (B := B) (C := [.int .i64 0, .int .i64 0, .str ⟨#[]⟩, .fslice []]) (x := r.cells) hA rfl hrw
 have hw := wrap64 (n := (i : Int) + 1) (by omega) (by omega)
 simp -implicitDefEqProofs only [hat, hs2, hrw, hrs, hp1, hw, evF, ↓evZ, implies_true, seval, tf_MkO_11]
 refine ⟨hp2, ?_⟩
 exact ⟨_, hnext, zx7.mk (by simp -implicitDefEqProofs only [evF, ↓evZ, implies_true, seval, tf_MkO_11])⟩
abbrev tf_MkO_41 := zi tI_3 (zi zI_3 (zi underlying3 (zi tI_9 (zi zI_9 (zi underlying9 (zi tI_23 (zi zI_23 (zi eI_23 (zi eB_23 (zi eZ_23 (zi underlying23 (zi tI_31 (zi zI_31 (zi eI_31 (zi eB_31 (zi eZ_31 (zi underlying31 (zi tI_42 (zi zI_42 (zi fI_42_0 (zi fI_42_1 (zi fI_42_2 (zi fI_42_3 (zi bI_42 (zi tI_68 (zi zI_68 (zi fI_68_0 (zi fI_68_1 (zi fI_68_2 (zi fI_68_3 bI_68))))))))))))))))))))))))))))))
theorem o_toTerm : ∀ (a : Tm) (st : zy7), a.sz ≤ 1048576 → zq7 prog 41 [a.av] st (Made st a.av)
 | .mk k n s ts, st, hb => by
  rw [Tm.sz_mk] at hb
  have hc := fun st => o_toTermS ts st (by omega) fun x hx st => o_toTerm x st (by have := sumL_mem (f := Tm.sz) hx; omega)
  refine zq7.madeJ ?_
  refine zw6 [] func41 ntmps41 rfl rfl (by kernel_rfl) (by decide +kernel) (by show 1 ≤ _; decide +kernel) ?_
  intro _
  simp only [Tm.av_mk]
  simp -implicitDefEqProofs only [evF, ↓evZ, implies_true, seval, tf_MkO_41]
  intro b hb1 b2 hb2
  have hne : b2 ≠ b := by rintro rfl; rw [zy7.upd_same] at hb2; cases hb2
  have hn2 : st b2 = none := by rw [zy7.upd_ne st _ hne] at hb2; exact hb2
  simp -implicitDefEqProofs only [su_eq, hne, hne.symm, zy4, zy7.upd_upd, evF, ↓evZ, implies_true, seval, tf_MkO_41]
  refine (hc _).mono ?_
  rintro q s2 ⟨bs, m1, m2, m3, m4⟩
  have hbb : b ∉ bs := fun h => by have := m2 b h; simp [su_eq, hne, hne.symm] at this
  have hbb2 : b2 ∉ bs := fun h => by have := m2 b2 h; simp [su_eq] at this
  have e1 := m4 b hbb
  have e2 := m4 b2 hbb2
  simp only [su_eq, hne, hne.symm, if_true, if_false] at e1 e2
  have hqc : q.cells = [q] := by have := (Own.shape m3).1; cases q <;> first | rfl | simp [AV.isAgg] at this
  have hqs : q.storable = true := by
   have := m3
   simp only [Own] at this
   rcases this with ⟨_, rfl, _⟩ | ⟨_, _, _, _, rfl, _⟩ <;> rfl
  simp -implicitDefEqProofs only [su_eq, hne, hne.symm, e1, e2, hqc, hqs, zy4, zy7.upd_upd, evF, ↓evZ, implies_true, seval, tf_MkO_41]
  refine ⟨[b, b2], bs, m1, fun x hx => ?_, ?_, ?_, ?_⟩
  · have := m2 x hx
    have h1 : x ≠ b := fun e => hbb (e ▸ hx)
    have h2 : x ≠ b2 := fun e => hbb2 (e ▸ hx)
    simpa [su_eq, h1, h2] using this
  · simp [hb1, hn2, hbb, hbb2]
  · rw [← Tm.av_mk]
    refine own_Tm.2 ⟨q, rfl, Own.keep _ _ _ (fun x hx => ?_) m3⟩
    have h1 : x ≠ b := fun e => hbb (e ▸ hx)
    have h2 : x ≠ b2 := fun e => hbb2 (e ▸ hx)
    simp only [su_eq, h1, h2, if_false]
  · intro x hx hd
    simp only [List.mem_cons, List.not_mem_nil, or_false, not_or] at hd
    simp only [su_eq, hd.1, hd.2, if_false]
    rw [m4 x hx]
    simp only [su_eq, hd.1, hd.2, if_false]
termination_by a => SizeOf.sizeOf a
decreasing_by have := List.sizeOf_lt_of_mem hx; simp only [Tm.mk.sizeOf_spec]; omega
end Go.AW


namespace Go.AW
open Go.Proofs.Tryz
set_option linter.unusedSimpArgs false
set_option maxRecDepth 100000
abbrev tf_Ts1_15 := zi tI_3 (zi zI_3 (zi underlying3 (zi tI_4 (zi zI_4 (zi underlying4 (zi tI_31 (zi zI_31 (zi eI_31 (zi eB_31 (zi eZ_31 (zi underlying31 (zi tI_42 (zi zI_42 (zi fI_42_0 (zi fI_42_1 (zi fI_42_2 (zi fI_42_3 bI_42)))))))))))))))))
theorem c_eqTermS (l l' : List Tm) (st : zy7) (hc : ∀ x ∈ l, ∀ (y : Tm) (st : zy7), zq7 prog 45 [Tm.av x, Tm.av y] st (fun r st' => r = .bool (Tm.same x y) ∧ st' = st)) :
 zq7 prog 15 [.slice (l.map Tm.av), .slice (l'.map Tm.av)] st (fun r st' => r = .bool (eqL Tm.same l l') ∧ st' = st) := by
 refine zw6 [] func15 ntmps15 rfl rfl (by kernel_rfl) (by decide +kernel) (by show 2 ≤ _; decide +kernel) ?_
 simp only [fitsL, AV.fits, and_true, List.length_map]
 intro ⟨⟨hl, _⟩, ⟨hl', _⟩⟩
 simp -implicitDefEqProofs only [List.length_map, evF, ↓evZ, implies_true, seval, tf_Ts1_15]
 refine ⟨fun h4 => ?_, fun h4 => ?_⟩
 · simp -implicitDefEqProofs only [evF, ↓evZ, implies_true, seval, tf_Ts1_15]
   simp only [Bool.not_eq_true', decide_eq_false_iff_not] at h4
   rw [eqL_len _ (show l.length ≠ l'.length by omega)]
 simp -implicitDefEqProofs only [evF, ↓evZ, implies_true, seval, tf_Ts1_15]
 simp only [Bool.not_eq_false', decide_eq_true_eq] at h4
 have h4' : l.length = l'.length := by omega
 refine zy6 (α := Nat) [] (fun i => i ≤ l.length ∧ ∀ (j : Nat) (x y : Tm), j < i → l[j]? = some x → l'[j]? = some y → Tm.same x y = true)
  (fun i => [(0, .slice (l.map Tm.av)), (1, .slice (l'.map Tm.av)), (5, .int .i64 i)]) (fun _ => st) (fun i => l.length - i) (by decide +kernel)
  ⟨0, ⟨by omega, by intro j x y h; omega⟩, zx7.mk (by simp -implicitDefEqProofs only [evF, ↓evZ, implies_true, seval, tf_Ts1_15])⟩ ?_
 intro i ⟨hi, hall⟩
 simp -implicitDefEqProofs only [List.length_map, evF, ↓evZ, implies_true, seval, tf_Ts1_15]
 refine ⟨fun h5 => ?_, fun h5 => ?_⟩
 case refine_2 =>
  simp -implicitDefEqProofs only [evF, ↓evZ, implies_true, seval, tf_Ts1_15]
  simp only [decide_eq_false_iff_not, Int.ofNat_lt] at h5
  rw [eqL_all _ h4' (fun j x y h6 h7 => hall j x y (by have := (List.getElem?_eq_some_iff.1 h6).1; omega) h6 h7)]
 simp only [decide_eq_true_eq, Int.ofNat_lt] at h5
 obtain ⟨x, hx⟩ : ∃ x, l[i]? = some x := ⟨_, List.getElem?_eq_getElem h5⟩
 obtain ⟨y, hy⟩ : ∃ y, l'[i]? = some y := ⟨_, List.getElem?_eq_getElem (h4' ▸ h5)⟩
 simp -implicitDefEqProofs only [evF, ↓evZ, implies_true, seval, tf_Ts1_15]
 refine arun_drawP mixed (by decide +kernel) (by decide +kernel) ?_
 simp -implicitDefEqProofs only [ev_at (av := Tm.av) eI_31 hx (Tm.av_width x), ev_at (av := Tm.av) eI_31 hy (Tm.av_width y), Tm.av_agg, Tm.av_width, evF, ↓evZ, implies_true, seval, tf_Ts1_15]
 refine (hc x (List.mem_of_getElem? hx) y st).to ?_
 simp -implicitDefEqProofs only [evF, ↓evZ, implies_true, seval, tf_Ts1_15]
 refine ⟨fun h6 => ?_, fun h6 => ?_⟩
 · simp -implicitDefEqProofs only [evF, ↓evZ, implies_true, seval, tf_Ts1_15]
   have h7 : Tm.same x y = false := by simpa using h6
   rw [eqL_at _ i x y hx hy h7]
 have h7 : Tm.same x y = true := by simpa using h6
 simp -implicitDefEqProofs only [evF, ↓evZ, implies_true, seval, tf_Ts1_15]
 refine ⟨i + 1, by omega, ⟨by omega, fun j u v hj hu hv => ?_⟩, zx7.mk ?_⟩
 · rcases Nat.lt_or_ge j i with h8 | h8
   · exact hall j u v h8 hu hv
   · obtain rfl : j = i := by omega
     rw [hx] at hu; rw [hy] at hv; cases hu; cases hv; exact h7
 · have := wrap64 (n := (i : Int) + 1) (by omega) (by omega)
   simp -implicitDefEqProofs only [this, evF, ↓evZ, implies_true, seval, tf_Ts1_15]
abbrev tf_Ts1_8 := zi tI_3 (zi zI_3 (zi underlying3 (zi tI_23 (zi zI_23 (zi eI_23 (zi eB_23 (zi eZ_23 (zi underlying23 (zi tI_68 (zi zI_68 (zi fI_68_0 (zi fI_68_1 (zi fI_68_2 (zi fI_68_3 bI_68))))))))))))))
theorem c_szTermS (l : List Tm) (left : Int) (st : zy7) (h0 : 0 ≤ left) (h1 : left ≤ 1048576) (hc : ∀ x ∈ l, ∀ (left : Int) (st : zy7), 0 ≤ left → left ≤ 1048576 → zq7 prog 36 [Tm.av x, .int .i64 left] st (fun r st' => r = .int .i64 (szR left (Tm.sz x)) ∧ st' = st)) :
 zq7 prog 8 [.slice (l.map Tm.av), .int .i64 left] st (fun r st' => r = .int .i64 (szR left (l.length + sumL Tm.sz l)) ∧ st' = st) := by
 refine zw6 [] func8 ntmps8 rfl rfl (by kernel_rfl) (by decide +kernel) (by show 2 ≤ _; decide +kernel) ?_
 simp only [fitsL, AV.fits, and_true, List.length_map]
 intro ⟨hl, _⟩
 have hw := wrap64 (n := left - (l.length : Int)) (by omega) (by omega)
 simp -implicitDefEqProofs only [List.length_map, hw, evF, ↓evZ, implies_true, seval, tf_Ts1_8]
 refine ⟨fun h4 => ?_, fun h4 => ?_⟩
 · simp -implicitDefEqProofs only [evF, ↓evZ, implies_true, seval, tf_Ts1_8]
   simp only [decide_eq_true_eq] at h4
   simp only [szR]
   rw [if_pos (by omega)]
 simp only [decide_eq_false_iff_not] at h4
 simp -implicitDefEqProofs only [evF, ↓evZ, implies_true, seval, tf_Ts1_8]
 refine zy6 (α := Nat) [] (fun i => i ≤ l.length ∧ ((l.length + sumL Tm.sz (l.take i) : Nat) : Int) ≤ left)
  (fun i => [(0, .slice (l.map Tm.av)), (1, .int .i64 (left - ((l.length + sumL Tm.sz (l.take i) : Nat) : Int))), (5, .int .i64 i)]) (fun _ => st) (fun i => l.length - i) (by decide +kernel)
  ⟨0, ⟨by omega, by simp only [List.take_zero, sumL]; omega⟩, zx7.mk (by simp -implicitDefEqProofs only [sumL, Nat.add_zero, evF, ↓evZ, implies_true, seval, tf_Ts1_8])⟩ ?_
 intro i ⟨hi, hle⟩
 simp -implicitDefEqProofs only [List.length_map, evF, ↓evZ, implies_true, seval, tf_Ts1_8]
 refine ⟨fun h5 => ?_, fun h5 => ?_⟩
 case refine_2 =>
  simp -implicitDefEqProofs only [evF, ↓evZ, implies_true, seval, tf_Ts1_8]
  simp only [decide_eq_false_iff_not, Int.ofNat_lt] at h5
  rw [show i = l.length by omega, List.take_length] at hle ⊢
  rw [szR_pos (by omega)]
 simp only [decide_eq_true_eq, Int.ofNat_lt] at h5
 obtain ⟨x, hx⟩ : ∃ x, l[i]? = some x := ⟨_, List.getElem?_eq_getElem h5⟩
 simp -implicitDefEqProofs only [ev_at (av := Tm.av) eI_23 hx (Tm.av_width x), Tm.av_agg, Tm.av_width, evF, ↓evZ, implies_true, seval, tf_Ts1_8]
 refine (hc x (List.mem_of_getElem? hx) _ st (by omega) (by omega)).to ?_
 have hs := sumL_take Tm.sz hx
 simp -implicitDefEqProofs only [evF, ↓evZ, implies_true, seval, tf_Ts1_8]
 refine ⟨fun h6 => ?_, fun h6 => ?_⟩
 · simp -implicitDefEqProofs only [evF, ↓evZ, implies_true, seval, tf_Ts1_8]
   simp only [decide_eq_true_eq, szR_neg] at h6
   simp only [szR]
   rw [if_pos (by omega)]
 simp only [decide_eq_false_iff_not, szR_neg] at h6
 rw [szR_pos h6]
 simp -implicitDefEqProofs only [evF, ↓evZ, implies_true, seval, tf_Ts1_8]
 refine ⟨i + 1, by omega, ⟨by omega, by omega⟩, zx7.mk ?_⟩
 · have := wrap64 (n := (i : Int) + 1) (by omega) (by omega)
   have e : (left - ((l.length + sumL Tm.sz (l.take (i + 1)) : Nat) : Int)) = left - ((l.length + sumL Tm.sz (l.take i) : Nat) : Int) - ((Tm.sz x : Nat) : Int) := by omega
   simp -implicitDefEqProofs only [this, e, evF, ↓evZ, implies_true, seval, tf_Ts1_8]
abbrev tf_Ts1_45 := zi tI_3 (zi zI_3 (zi underlying3 (zi tI_4 (zi zI_4 (zi underlying4 (zi tI_9 (zi zI_9 (zi underlying9 (zi tI_31 (zi zI_31 (zi eI_31 (zi eB_31 (zi eZ_31 (zi underlying31 (zi tI_42 (zi zI_42 (zi fI_42_0 (zi fI_42_1 (zi fI_42_2 (zi fI_42_3 bI_42))))))))))))))))))))
theorem c_eqTerm : ∀ (a b : Tm) (st : zy7), zq7 prog 45 [a.av, b.av] st (fun r st' => r = .bool (a.same b) ∧ st' = st)
 | .mk k n s ts, .mk k' n' s' ts', st => by
  have hc := c_eqTermS ts ts' st fun x hx y st => c_eqTerm x y st
  refine zw6 [] func45 ntmps45 rfl rfl (by kernel_rfl) (by decide +kernel) (by show 2 ≤ _; decide +kernel) ?_
  intro _
  simp only [Tm.av_mk, Tm.same_mk]
  simp -implicitDefEqProofs only [evF, ↓evZ, implies_true, seval, tf_Ts1_45]
  refine ⟨fun h1 => ?_, fun h1 => ?_⟩
  · simp -implicitDefEqProofs only [evF, ↓evZ, implies_true, seval, tf_Ts1_45]
    simp only [Bool.not_eq_true'] at h1
    simp [h1]
  simp only [Bool.not_eq_false'] at h1
  simp -implicitDefEqProofs only [evF, ↓evZ, implies_true, seval, tf_Ts1_45]
  refine ⟨fun h2 => ?_, fun h2 => ?_⟩
  · simp -implicitDefEqProofs only [evF, ↓evZ, implies_true, seval, tf_Ts1_45]
    simp only [Bool.not_eq_true'] at h2
    simp [h2]
  simp only [Bool.not_eq_false'] at h2
  simp -implicitDefEqProofs only [evF, ↓evZ, implies_true, seval, tf_Ts1_45]
  refine ⟨fun h3 => ?_, fun h3 => ?_⟩
  · simp -implicitDefEqProofs only [evF, ↓evZ, implies_true, seval, tf_Ts1_45]
    simp only [Bool.not_eq_true'] at h3
    simp [h3]
  simp only [Bool.not_eq_false'] at h3
  simp -implicitDefEqProofs only [evF, ↓evZ, implies_true, seval, tf_Ts1_45]
  refine hc.to ?_
  simp -implicitDefEqProofs only [evF, ↓evZ, implies_true, seval, tf_Ts1_45]
  refine ⟨fun h4 => ?_, fun h4 => ?_⟩ <;> simp -implicitDefEqProofs only [evF, ↓evZ, implies_true, seval, tf_Ts1_45]
  · simp only [Bool.not_eq_true'] at h4
    simp [h4]
  · simp only [Bool.not_eq_false'] at h4
    simp [h1, h2, h3, h4]
termination_by a => SizeOf.sizeOf a
decreasing_by have := List.sizeOf_lt_of_mem hx; simp only [Tm.mk.sizeOf_spec]; omega
abbrev tf_Ts1_36 := zi tI_3 (zi zI_3 (zi underlying3 (zi tI_9 (zi zI_9 (zi underlying9 (zi tI_23 (zi zI_23 (zi eI_23 (zi eB_23 (zi eZ_23 (zi underlying23 (zi tI_68 (zi zI_68 (zi fI_68_0 (zi fI_68_1 (zi fI_68_2 (zi fI_68_3 bI_68)))))))))))))))))
theorem c_szTerm : ∀ (a : Tm) (left : Int) (st : zy7), 0 ≤ left → left ≤ 1048576 → zq7 prog 36 [a.av, .int .i64 left] st (fun r st' => r = .int .i64 (szR left a.sz) ∧ st' = st)
 | .mk k n s ts, left, st, h0, h1 => by
  have hc := fun (left : Int) h0 h1 => c_szTermS ts left st h0 h1 fun x hx left st h0 h1 => c_szTerm x left st h0 h1
  refine zw6 [] func36 ntmps36 rfl rfl (by kernel_rfl) (by decide +kernel) (by show 2 ≤ _; decide +kernel) ?_
  simp only [Tm.av_mk, Tm.sz_mk, fitsL, AV.fits, and_true]
  intro ⟨_, _, hs, _⟩
  have hw := wrap64 (n := left - (s.size : Int)) (by omega) (by omega)
  simp -implicitDefEqProofs only [hw, evF, ↓evZ, implies_true, seval, tf_Ts1_36]
  refine ⟨fun h2 => ?_, fun h2 => ?_⟩
  · simp -implicitDefEqProofs only [evF, ↓evZ, implies_true, seval, tf_Ts1_36]
    simp only [decide_eq_true_eq] at h2
    simp only [szR]
    rw [if_pos (by omega)]
  simp only [decide_eq_false_iff_not] at h2
  simp -implicitDefEqProofs only [evF, ↓evZ, implies_true, seval, tf_Ts1_36]
  refine (hc _ (by omega) (by omega)).to ?_
  simp -implicitDefEqProofs only [evF, ↓evZ, implies_true, seval, tf_Ts1_36]
  refine ⟨fun h3 => ?_, fun h3 => ?_⟩
  · simp -implicitDefEqProofs only [evF, ↓evZ, implies_true, seval, tf_Ts1_36]
    simp only [decide_eq_true_eq, szR_neg] at h3
    simp only [szR]
    rw [if_pos (by omega)]
  simp only [decide_eq_false_iff_not, szR_neg] at h3
  simp -implicitDefEqProofs only [evF, ↓evZ, implies_true, seval, tf_Ts1_36]
  rw [szR_pos h3, szR_pos (by omega)]
  simp only [AV.int.injEq, true_and, and_true]
  omega
termination_by a => SizeOf.sizeOf a
decreasing_by have := List.sizeOf_lt_of_mem hx; simp only [Tm.mk.sizeOf_spec]; omega
end Go.AW


namespace Go.AW
open Go.Proofs.Tryz
set_option linter.unusedSimpArgs false
set_option maxRecDepth 100000
theorem markL_drop {α : Type} (mk : α → Int → α) (n : α → Nat) : ∀ (l : List α) (j : Int) (i : Nat), (markL mk n l j).drop i = markL mk n (l.drop i) (j + sumL n (l.take i))
 | [], _, i => by simp [markL]
 | x :: l, j, 0 => by simp [sumL]
 | x :: l, j, i + 1 => by
  simp only [markL, List.drop_succ_cons, List.take_succ_cons, sumL, markL_drop mk n l _ i]
  congr 1
  omega
abbrev tf_MkH_47 := zi tI_3 (zi zI_3 (zi underlying3 (zi tI_9 (zi zI_9 (zi underlying9 (zi tI_31 (zi zI_31 (zi eI_31 (zi eB_31 (zi eZ_31 (zi underlying31 (zi tI_42 (zi zI_42 (zi fI_42_0 (zi fI_42_1 (zi fI_42_2 (zi fI_42_3 bI_42)))))))))))))))))
theorem c_heldTermS : ∀ (l : List Tm) (j : Int) (st : zy7), 0 ≤ j → j + sumL Tm.mks l ≤ 1099511627776 →
 zq7 prog 47 [.slice ((markL Tm.mark Tm.mks l j).map Tm.av), .int .i64 j] st (fun r st' => r = .int .i64 (j + sumL Tm.mks l) ∧ st' = st)
 | l, j, st, h0, h1 => by
  have IH := fun (k n : Int) (s : ByteArray) (ts : List Tm) (hm : Tm.mk k n s ts ∈ l) => c_heldTermS ts
  refine zw6 [1000000] func47 ntmps47 rfl rfl (by kernel_rfl) (by decide +kernel) (by show 2 ≤ _; decide +kernel) ?_
  simp only [fitsL, AV.fits, and_true, List.length_map, markL_length]
  intro ⟨hl, _⟩
  have hML : (markL Tm.mark Tm.mks l j).length = l.length := markL_length _ _ _ _
  simp -implicitDefEqProofs only [List.length_map, hML, evF, ↓evZ, implies_true, seval, tf_MkH_47]
  refine zy5 (σ := Unit) [1000000] [0] (markL Tm.mark Tm.mks l j) (fun i _ => True) (fun i _ => [(1, .int .i64 (j + sumL Tm.mks (l.take i))), (5, .int .i64 i)]) (fun _ _ => st) (by decide +kernel) ⟨(), trivial, zx7.mk (by simp -implicitDefEqProofs only [sumL, List.take_zero, Int.add_zero, List.length_map, hML, evF, ↓evZ, implies_true, seval, tf_MkH_47])⟩ (fun i x _ hx hlt hlt' hdr _ => ?_) (fun _ hge _ => ?_)
  case refine_2 =>
   rw [hML] at hge
   simp -implicitDefEqProofs only [hge, List.take_length, List.length_map, hML, evF, ↓evZ, implies_true, seval, tf_MkH_47]
  rw [hML] at hlt hlt'
  obtain ⟨y, hy⟩ : ∃ y, l[i]? = some y := ⟨_, List.getElem?_eq_getElem hlt⟩
  obtain ⟨k, n, s, ts⟩ := y
  have hxy : x = (Tm.mk k n s ts).mark (j + sumL Tm.mks (l.take i)) := by
   have := markL_drop Tm.mark Tm.mks l j i
   rw [hdr, List.drop_eq_getElem_cons hlt, markL, (List.getElem?_eq_some_iff.1 hy).2] at this
   exact (List.cons.inj this).1
  have hs := sumL_take Tm.mks hy
  rw [Tm.mks_mk] at hs
  rw [Tm.mark_mk] at hxy
  have hat := ev_at (av := Tm.av) eI_31 hx (Tm.av_width x)
  rw [hxy, Tm.av_mk] at hat
  obtain ⟨hs1, hs2⟩ := hs
  generalize hk : j + (sumL Tm.mks (l.take i) : Int) = m at *
  have hw1 := wrap64 (n := m + 1) (by omega) (by omega)
  have hw2 := wrap64 (n := m + 1 + 1) (by omega) (by omega)
  have hw3 := wrap64 (n := m + 1 + 1 + 1) (by omega) (by omega)
  have hw := wrap64 (n := (i : Int) + 1) (by omega) (by omega)
  simp -implicitDefEqProofs only [hlt', decide_true, Bool.not_true, List.length_map, hML, hat, hw1, hw2, hw3, evF, ↓evZ, implies_true, seval, tf_MkH_47]
  refine zx5 [(0, 1), (1, 1), (2, 1), (3, 1), (5, 1), (4, 2), (6, 2), (7, 1)] [0, 1, 2, 3, 5, 4, 6, 7] mixed (by decide +kernel) (by decide +kernel) (by decide +kernel) ?_
  simp -implicitDefEqProofs only [List.length_map, hML, hat, hw1, hw2, hw3, evF, ↓evZ, implies_true, seval, tf_MkH_47]
  refine zw4 (c_markText (m + 1 + 1) _ (by omega)) ?_
  simp -implicitDefEqProofs only [decide_true, Bool.not_true, List.length_map, hML, hat, hw1, hw2, hw3, evF, ↓evZ, implies_true, seval, tf_MkH_47]
  refine (IH k n s ts (List.mem_of_getElem? hy) (m + 1 + 1 + 1) _ (by omega) (by omega)).to ?_
  have hneg : ¬ (m + 1 + 1 + 1 + (sumL Tm.mks ts : Int) < 0) := by omega
  simp -implicitDefEqProofs only [hneg, decide_false, List.length_map, hML, hat, hw1, hw2, hw3, evF, ↓evZ, implies_true, seval, tf_MkH_47]
  refine ⟨(), zx7.mk ?_⟩
  have e : j + (sumL Tm.mks (l.take (i + 1)) : Int) = m + 1 + 1 + 1 + (sumL Tm.mks ts : Int) := by omega
  simp -implicitDefEqProofs only [hw, e, List.length_map, hML, hat, hw1, hw2, hw3, evF, ↓evZ, implies_true, seval, tf_MkH_47]
termination_by l => SizeOf.sizeOf l
decreasing_by have := List.sizeOf_lt_of_mem hm; simp only [Tm.mk.sizeOf_spec] at this; omega
end Go.AW


namespace Go.AW
open Go.Proofs.Tryz
set_option linter.unusedSimpArgs false
set_option maxRecDepth 100000
abbrev szL (l : List Tm) : Nat := l.length + sumL Tm.sz l
theorem c_szTermS' (l : List Tm) (left : Int) (st : zy7) (h0 : 0 ≤ left) (h1 : left ≤ 1048576) : zq7 prog 8 [.slice (l.map Tm.av), .int .i64 left] st (fun r st' => r = .int .i64 (szR left (szL l)) ∧ st' = st) :=
 c_szTermS l left st h0 h1 fun x _ left st h0 h1 => c_szTerm x left st h0 h1
theorem c_eqTermS' (l : List Tm) (st : zy7) : zq7 prog 15 [.slice (l.map Tm.av), .slice (l.map Tm.av)] st (fun r st' => r = .bool true ∧ st' = st) := by
 refine (c_eqTermS l l st fun x _ y st => c_eqTerm x y st).mono ?_
 rintro _ _ ⟨rfl, rfl⟩
 refine ⟨?_, rfl⟩
 rw [(eqL_eq (fun x _ y => Tm.same_eq x y)).2 rfl]
theorem sz_mem {l : List Tm} {x : Tm} (hx : x ∈ l) : x.sz ≤ szL l := by have := sumL_mem (f := Tm.sz) hx; unfold szL; omega
theorem c_toTermS' (l : List Tm) (st : zy7) (hb : szL l ≤ 1048576) : zq7 prog 11 [.slice (l.map Tm.av)] st (fun r st' => r = .slice (l.map Tm.av) ∧ st' = st) :=
 c_toTermS l st (by unfold szL at hb; omega) fun x hx st => c_toTerm x st (by have := sz_mem hx; omega)
theorem o_toTermS' (l : List Tm) (st : zy7) (hb : szL l ≤ 1048576) : zq7 prog 11 [.slice (l.map Tm.av)] st (Made st (.slice (l.map Tm.av))) :=
 o_toTermS l st (by unfold szL at hb; omega) fun x hx st => o_toTerm x st (by have := sz_mem hx; omega)
mutual
theorem Tm.mks_le : ∀ (t : Tm), t.mks ≤ 3 + 3 * t.sz
 | .mk k n s ts => by
  have := tmsMks_le ts
  rw [Tm.mks, Tm.sz_mk]
  omega
theorem tmsMks_le : ∀ (ts : List Tm), tmsMks ts ≤ 3 * (ts.length + sumL Tm.sz ts)
 | [] => by simp [tmsMks]
 | t :: ts => by
  have h1 := Tm.mks_le t
  have h2 := tmsMks_le ts
  simp only [tmsMks, List.length_cons, sumL]
  omega
end
theorem mks_szL (l : List Tm) : sumL Tm.mks l ≤ 3 * szL l := by rw [← tmsMks_eq]; exact tmsMks_le l
end Go.AW
