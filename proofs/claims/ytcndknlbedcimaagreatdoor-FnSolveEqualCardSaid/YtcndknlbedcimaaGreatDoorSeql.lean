import Derived.Test.YtcndknlbedcimaaGreatDoorSeqk
import Derived.Test.YtcndknlbedcimaaGreatDoorSeqj
import Derived.Test.YtcndknlbedcimaaGreatDoorSeqf
import Derived.Test.YtcndknlbedcimaaGreatDoorSeqh
set_option linter.unusedSimpArgs false
set_option linter.unusedVariables false
set_option maxRecDepth 100000
namespace Go.AW
open Go.Proofs.Tryz
def optR (v : Tm) : AV := if v.flat 30 = true ∧ v.nodes ≤ 120 then .tup [v.av, .bool true] else .tup [Tm.zero.av, .bool false]
abbrev tf_S6_104 := zi tI_3 (zi zI_3 (zi underlying3 (zi tI_4 (zi zI_4 (zi underlying4 (zi tI_42 (zi zI_42 (zi fI_42_0 (zi fI_42_1 (zi fI_42_2 (zi fI_42_3 (zi bI_42 (zi tI_85 (zi zI_85 (zi tI_130 zI_130)))))))))))))))
theorem c_resolve {σ : Sub} {R : Int → Tm} {rk : Int → Nat} {B : Nat} (G : Good σ R rk B) (hcv : AllS Cv σ) (hsm : AllS Sm σ) (c m : Nat) (q : AV) (t : Tm) (hct : Cv t) (hst : Sm t) (st : zy7) (hS : SubAt st c m q σ) :
 zq7 prog 104 [.ptr c 0, t.av] st (fun r st' => r = optR (t.mapv R) ∧ st' = st) := by
 refine zq7.done ?_
 refine wF [1000000, 6] 2 func104 ntmps104 rfl rfl ?_
 intro _
 simp -implicitDefEqProofs only [zy4, evF, ↓evZ, implies_true, seval, tf_S6_104]
 intro b4 h4 b6 h6
 have hne : b6 ≠ b4 := by rintro rfl; rw [zy7.upd_same] at h6; cases h6
 have hn6 : st b6 = none := by rw [zy7.upd_ne st _ hne] at h6; exact h6
 have hS' : ∀ o o', SubAt ((st.upd b4 o).upd b6 o') c m q σ := fun o o' => (hS.upd h4).upd (by rw [zy7.upd_ne _ _ hne]; exact hn6)
 obtain ⟨h6c, h6m⟩ := hS.ne hn6
 have hc := c_resolving G hcv hsm c m b6 q ⟨h6c, h6m⟩ 30 t 0 _ (by omega) hct hst (by omega) (hS' (.cells [.int .i64 0, .int .i64 0, .str ⟨#[]⟩, .fslice []]) (.cells [.int .i64 0])) (zy7.upd_same _ _ _)
 rw [show (31 - ((30 : Nat) : Int)) = 1 from rfl] at hc
 refine hc.mono ?_
 rintro r s2 ⟨cnt', _, rfl, hr⟩
 unfold optR
 rw [Nat.zero_add] at hr
 split at hr
 · rename_i hok
   obtain ⟨rfl, _⟩ := hr
   rw [if_pos hok]
   simp -implicitDefEqProofs only [Tm.av_cells, Tm.av_store, Tm.av_agg, Tm.av_width, zy4, hne, hne.symm, evF, ↓evZ, implies_true, seval, tf_S6_104]
   exact ⟨by simp only [soft_agg, soft_tup, soft_int, soft_bool, soft_str, soft_slice, soft_fslice, soft_ptr, soft_pptr, soft_map, soft_mslice, Tm.soft, List.map_cons, List.map_nil], (((Drops.refl _).upd h4).upd hn6).upd h4⟩
 · rename_i hok
   subst hr
   rw [if_neg hok]
   simp -implicitDefEqProofs only [Tm.zero, Tm.av_mk, List.map_nil, zy4, hne, hne.symm, evF, ↓evZ, implies_true, seval, tf_S6_104]
   exact ⟨by simp only [soft_agg, soft_tup, soft_int, soft_bool, soft_str, soft_slice, soft_fslice, soft_ptr, soft_pptr, soft_map, soft_mslice, Tm.soft, List.map_cons, List.map_nil], (((Drops.refl _).upd h4).upd hn6).upd h4⟩
abbrev tf_S6_50 := zi tI_85 (zi zI_85 (zi tI_126 (zi zI_126 (zi underlying126 (zi tI_128 (zi zI_128 (zi fI_128_0 (zi fI_128_1 bI_128))))))))
theorem c_newStore (st : zy7) : zq7 prog 50 [] st (fun r st' => ∃ c m, r = .ptr c 0 ∧ Sto st' c m (.fslice []) Sub.none [] ∧ StepQ c m st (.fslice []) st' (.fslice []) ∧ st c = none ∧ st m = none) := by
 refine wF [1000000, 3] 0 func50 ntmps50 rfl rfl ?_
 intro _
 simp -implicitDefEqProofs only [zy4, evF, ↓evZ, implies_true, seval, tf_S6_50]
 intro m hm c hc
 have hne : c ≠ m := by rintro rfl; rw [zy7.upd_same] at hc; cases hc
 have hnc : st c = none := by rw [zy7.upd_ne st _ hne] at hc; exact hc
 refine ⟨c, m, rfl, ⟨⟨zy7.upd_same _ _ _, by rw [zy7.upd_ne _ _ hne.symm, zy7.upd_same]; rfl⟩, .inl ⟨rfl, rfl⟩, by simp [tbk]⟩, ⟨fun x o h h1 h2 _ => by rw [zy7.upd_ne _ _ h1, zy7.upd_ne _ _ h2]; exact h, by simp [tbk]⟩, hnc, hm⟩
noncomputable def bindsTo (σ : Sub) (i : Nat) : List Bd := (List.range i).filterMap fun i : Nat => (σ (i : Int)).map fun u => ((i : Int), u.mapv (rs σ))
theorem bindsTo_26 (σ : Sub) : bindsTo σ 26 = bindsOf σ := rfl
theorem bindsTo_none {σ : Sub} {i : Nat} (h : σ (i : Int) = none) : bindsTo σ (i + 1) = bindsTo σ i := by
 unfold bindsTo
 rw [List.range_succ, List.filterMap_append]
 simp [h]
theorem bindsTo_some {σ : Sub} {i : Nat} {u : Tm} (h : σ (i : Int) = some u) : bindsTo σ (i + 1) = bindsTo σ i ++ [((i : Int), u.mapv (rs σ))] := by
 unfold bindsTo
 rw [List.range_succ, List.filterMap_append]
 simp [h]
theorem bindsTo_len (σ : Sub) (i : Nat) : (bindsTo σ i).length ≤ i := by
 have := List.length_filterMap_le (fun i : Nat => (σ (i : Int)).map fun u => ((i : Int), u.mapv (rs σ))) (List.range i)
 simpa [bindsTo] using this
abbrev fitB (b : Bd) : Bool := b.2.flat 30 && decide (b.2.nodes ≤ 120)
noncomputable def allAv (σ : Sub) : AV := if (bindsOf σ).all fitB = true then .tup [.slice ((bindsOf σ).map bdAv), .bool true] else .tup [.slice [], .bool false]
theorem bindsTo_bad {σ : Sub} {i : Nat} {u : Tm} (hi : i < 26) (h : σ (i : Int) = some u) (hb : ¬ ((u.mapv (rs σ)).flat 30 = true ∧ (u.mapv (rs σ)).nodes ≤ 120)) : ¬ (bindsOf σ).all fitB = true := by
 intro h2
 have : ((i : Int), u.mapv (rs σ)) ∈ bindsOf σ := by
  unfold bindsOf
  rw [List.mem_filterMap]
  exact ⟨i, by simp [hi], by simp [h]⟩
 have := List.all_eq_true.1 h2 _ this
 simp only [fitB, Bool.and_eq_true, decide_eq_true_eq] at this
 exact hb this
theorem SubAt.acc {st : zy7} {c m b : Nat} {q : AV} {σ : Sub} {l : List AV} (h : SubAt st c m q σ) (hb : l ≠ [] → st b = none) : SubAt (accS st b l) c m q σ := by
 cases l with
 | nil => exact h
 | cons x l => exact h.upd (hb (by simp))
abbrev tf_S6_53 := zi tI_3 (zi zI_3 (zi underlying3 (zi tI_4 (zi zI_4 (zi underlying4 (zi tI_42 (zi zI_42 (zi fI_42_0 (zi fI_42_1 (zi fI_42_2 (zi fI_42_3 (zi bI_42 (zi tI_45 (zi zI_45 (zi eI_45 (zi eB_45 (zi eZ_45 (zi underlying45 (zi tI_85 (zi zI_85 (zi tI_95 (zi zI_95 (zi fI_95_0 (zi fI_95_1 (zi bI_95 (zi tI_126 (zi zI_126 (zi underlying126 (zi tI_128 (zi zI_128 (zi fI_128_0 (zi fI_128_1 bI_128))))))))))))))))))))))))))))))))
theorem c_all {σ : Sub} (hg : IsGood σ) (hcv : AllS Cv σ) (hsm : AllS Sm σ) (c m : Nat) (q : AV) (st : zy7) (hS : SubAt st c m q σ) :
 zq7 prog 53 [.ptr c 0] st (fun r st' => r = allAv σ ∧ st' = st) := by
 obtain ⟨rk, B, G⟩ := hg.rs
 refine zq7.done ?_
 refine wF [1000000] 1 func53 ntmps53 rfl rfl ?_
 intro _
 have hl := fun (st' : zy7) (hm : st' m = some (AO.map (mapOf σ))) (n : Int) => look_sub (P := prog) (n := n) hm underlying126 underlying3 zV_42
 simp -implicitDefEqProofs only [evF, ↓evZ, implies_true, seval, tf_S6_53]
 refine zq6 (σ := Unit) [1000000] [0] (List.range 26) 5 4 (fun i _ => (bindsTo σ i).map bdAv) (fun i _ => (bindsTo σ i).all fitB = true) (fun i _ => [(2, .fslice []), (3, .bool false), (9, .int .i64 i)]) (fun _ _ => st) (fun i _ _ e he => by simp only [List.mem_map] at he; obtain ⟨t, _, rfl⟩ := he; exact ⟨bdAv_junk t, bdAv_width t⟩) (by decide +kernel) ⟨(), 0, rfl, fun h => absurd rfl h, zx7.mk (by simp -implicitDefEqProofs only [show bindsTo σ 0 = [] from rfl, List.map_nil, accV_nil, accS_nil, evF, ↓evZ, implies_true, seval, tf_S6_53])⟩ (fun i x s b hx hlt hlt' hdr hinv hb => ?_) (fun s b hge hinv => ?_)
 · rw [List.length_range] at hlt
   have hx' : x = i := by rw [List.getElem?_range hlt] at hx; exact (Option.some.inj hx).symm
   subst hx'
   have hlen' := bindsTo_len σ x
   have hw := wrap64 (n := (x : Int) + 1) (by omega) (by omega)
   have hlt2 : decide ((x : Int) < 26) = true := by simp; omega
   have hSA := hS.acc hb
   have hlA := hl _ hSA.map
   simp -implicitDefEqProofs only [hlt2, hSA.cells, hlA, evF, ↓evZ, implies_true, seval, tf_S6_53]
   cases h : σ (x : Int) with
   | none =>
    rw [← bindsTo_none h] at hinv hb ⊢
    simp -implicitDefEqProofs only [found, hw, evF, ↓evZ, implies_true, seval, tf_S6_53]
    exact ⟨(), b, hinv, hb, zx7.mk (by simp -implicitDefEqProofs only [hw, hw, evF, ↓evZ, implies_true, seval, tf_S6_53])⟩
   | some u =>
    have hct := hcv _ _ h
    have hst := hsm _ _ h
    simp -implicitDefEqProofs only [found, Tm.av_agg, Tm.av_width, Tm.av_junk, Tm.av_store, evF, ↓evZ, implies_true, seval, tf_S6_53]
    refine (c_resolve G hcv hsm c m q u hct hst _ hSA).to ?_
    unfold optR
    split
    · rename_i hok
      simp -implicitDefEqProofs only [Tm.av_agg, Tm.av_width, Tm.av_junk, Tm.av_store, evF, ↓evZ, implies_true, seval, tf_S6_53]
      rw [bdAv_mk]
      have hlen2 : ((bindsTo σ x).map bdAv).length ≤ x := by rw [List.length_map]; exact hlen'
      refine acc_append eI_45 eB_45 eZ_45 rfl rfl (by intro e he; simp only [List.mem_cons, List.not_mem_nil, or_false] at he; subst he; exact ⟨bdAv_width _, bdAv_store _⟩) (bd_widths _) hb (by simp only [List.length_cons, List.length_nil]; omega) (by simp only [List.length_cons, List.length_nil]; omega) (fun b' hb' => ?_)
      rw [show (bindsTo σ x).map bdAv ++ [bdAv ((x : Int), u.mapv (rs σ))] = (bindsTo σ (x + 1)).map bdAv by rw [bindsTo_some h]; simp] at hb' ⊢
      simp -implicitDefEqProofs only [Tm.av_agg, Tm.av_width, Tm.av_junk, Tm.av_store, evF, ↓evZ, implies_true, seval, tf_S6_53]
      refine ⟨(), b', ?_, hb', zx7.mk (by simp -implicitDefEqProofs only [hw, Tm.av_agg, Tm.av_width, Tm.av_junk, Tm.av_store, evF, ↓evZ, implies_true, seval, tf_S6_53])⟩
      rw [bindsTo_some h, List.all_append, hinv]
      simp [fitB, hok]
    · rename_i hok
      simp -implicitDefEqProofs only [Tm.av_agg, Tm.av_width, Tm.av_junk, Tm.av_store, evF, ↓evZ, implies_true, seval, tf_S6_53]
      refine ⟨?_, Drops.accS (Drops.refl _) hb⟩
      unfold allAv
      rw [if_neg (bindsTo_bad hlt h hok)]
      simp only [soft_agg, soft_tup, soft_int, soft_bool, soft_str, soft_slice, soft_fslice, soft_ptr, soft_pptr, soft_map, soft_mslice, Tm.soft, List.map_cons, List.map_nil]
 · have hge' : decide ((25 : Int) + 1 < 26) = false := rfl
   rw [List.length_range] at hinv
   simp -implicitDefEqProofs only [List.length_range, hge', fin_accV, finL, fin_slice, fin_fslice, fin_bool, fin_int, fin_ptr, hS.cells, evF, ↓evZ, implies_true, seval, tf_S6_53]
   rw [bindsTo_26] at hinv ⊢
   refine ⟨?_, Drops.refl _⟩
   unfold allAv
   rw [if_pos hinv]
   simp only [soft_agg, soft_tup, soft_int, soft_bool, soft_str, soft_slice, soft_fslice, soft_ptr, soft_pptr, soft_map, soft_mslice, Tm.soft, List.map_cons, List.map_nil]
theorem StepQ.drops {c m : Nat} {st st' : zy7} {q' : AV} (x : StepQ c m st (.fslice []) st' q') (hc : st c = none) (hm : st m = none) : Drops st' st := fun b => by
 have key : ∀ o, st b = some o → st' b = some o := fun o h => x.frame b o h (by rintro rfl; rw [hc] at h; cases h) (by rintro rfl; rw [hm] at h; cases h) (by simp [tbk])
 refine ⟨fun h => ?_, key⟩
 cases hb : st b with
 | none => rfl
 | some o => rw [key o hb] at h; cases h
def uniAv : Option (List Bd) → AV
 | some bs => .tup [.slice (bs.map bdAv), .bool true]
 | none => .tup [.slice [], .bool false]
theorem Unif.fit {a b : Tm} {r : Bool} {σ : Sub} {tr : List Int} (h : Unif a b r σ tr) : ((bindsOf σ).all fun x => x.2.valid) = (bindsOf σ).all fitB := by
 obtain ⟨rk, B, G⟩ := h.uni.good.rs
 have key : ∀ l : List Bd, (∀ x ∈ l, x ∈ bindsOf σ) → (l.all fun x => x.2.valid) = l.all fitB := by
  intro l
  induction l with
  | nil => intro _; rfl
  | cons x l ih =>
   intro hl
   rw [List.all_cons, List.all_cons, ih fun y hy => hl y (by simp [hy])]
   congr 1
   have := hl x (by simp)
   unfold bindsOf at this
   rw [List.mem_filterMap] at this
   obtain ⟨i, _, hi⟩ := this
   cases hs : σ (i : Int) with
   | none => rw [hs] at hi; cases hi
   | some u =>
    rw [hs] at hi
    simp only [Option.map_some, Option.some.injEq] at hi
    subst hi
    exact Tm.valid_iff (G.okT h.okA (h.okA _ u hs))
 exact key _ fun _ h => h
theorem uniB_eq {a b : Tm} (ha : a.valid = true) (hb : b.valid = true) {r : Bool} {σ : Sub} {tr : List Int} (h : Unif a b r σ tr) (e : uniR a b = (r, σ, tr)) :
 uniAv (uniB a b) = if r = true then allAv σ else .tup [.slice [], .bool false] := by
 unfold uniB allAv
 rw [e]
 simp only [h.fit, ha, hb, true_and]
 cases r with
 | false => simp [uniAv]
 | true =>
  simp only [true_and, if_true]
  split <;> rfl
abbrev tf_S6_23 := zi tI_4 (zi zI_4 (zi underlying4 (zi tI_42 (zi zI_42 (zi fI_42_0 (zi fI_42_1 (zi fI_42_2 (zi fI_42_3 (zi bI_42 (zi tI_45 (zi zI_45 (zi eI_45 (zi eB_45 (zi eZ_45 (zi underlying45 (zi tI_85 zI_85))))))))))))))))
theorem c_impl_UnifyTerms (a b : Tm) (st : zy7) : zq7 prog 23 [a.av, b.av] st (fun r st' => r = uniAv (uniB a b) ∧ st' = st) := by
 refine zq7.done ?_
 refine wF [1000000] 2 func23 ntmps23 rfl rfl ?_
 intro _
 simp -implicitDefEqProofs only [evF, ↓evZ, implies_true, seval, tf_S6_23]
 refine (c_newStore _).mono ?_
 rintro _ s1 ⟨c, m, rfl, hS, hQ, hc, hm⟩
 have hD := hQ.drops hc hm
 have hbad : ∀ s2, Drops s2 st → ¬ (a.valid = true ∧ b.valid = true) → (AV.tup [.fslice [], .bool false]).soft = uniAv (uniB a b) ∧ Drops s2 st := fun s2 d h => by
  refine ⟨?_, d⟩
  unfold uniB
  rw [if_neg fun h2 => h ⟨h2.1, h2.2.1⟩]
  simp only [uniAv, soft_agg, soft_tup, soft_int, soft_bool, soft_str, soft_slice, soft_fslice, soft_ptr, soft_pptr, soft_map, soft_mslice, Tm.soft, List.map_cons, List.map_nil]
 simp -implicitDefEqProofs only [evF, ↓evZ, implies_true, seval, tf_S6_23]
 refine (c_impl_TermValid a _).to ?_
 simp -implicitDefEqProofs only [evF, ↓evZ, implies_true, seval, tf_S6_23]
 refine zx4 (fun h => ?_) (fun h => ?_)
 case refine_2 =>
  simp -implicitDefEqProofs only [h, evF, ↓evZ, implies_true, seval, tf_S6_23]
  refine hbad _ hD ?_
  simp at h
  simp [h]
 simp -implicitDefEqProofs only [h, evF, ↓evZ, implies_true, seval, tf_S6_23]
 refine (c_impl_TermValid b _).to ?_
 simp -implicitDefEqProofs only [h, evF, ↓evZ, implies_true, seval, tf_S6_23]
 simp only [Bool.not_eq_false'] at h
 refine zx4 (fun h2 => ?_) (fun h2 => ?_)
 case refine_2 =>
  simp -implicitDefEqProofs only [h2, evF, ↓evZ, implies_true, seval, tf_S6_23]
  refine hbad _ hD ?_
  simp at h2
  simp [h2]
 simp -implicitDefEqProofs only [h2, evF, ↓evZ, implies_true, seval, tf_S6_23]
 have hb' : b.valid = true := by simpa using h2
 obtain ⟨r, σ, tr, hU, hR⟩ := unif_of h hb'
 obtain ⟨g, hg⟩ := hU.run
 have oa := Tm.valid_okA h
 have ob := Tm.valid_okA hb'
 have hlen := nodup_V25 hU.uni.nodup hU.trV
 refine (c_unify g Sub.none a b r σ tr IsGood.none (fun n u h => (by cases h)) (Tm.okA_small a oa) (Tm.okA_small b ob) hg c m _ [] s1 hS (by simp only [List.length_nil]; omega)).mono ?_
 rintro _ s2 ⟨rfl, q', hS2, hQ2⟩
 have hD2 := (hQ.trans hS hQ2).drops hc hm
 have hcv : AllS Cv σ := fun n u hu => Tm.okA_cv u (hU.okA n u hu)
 have hsm : AllS Sm σ := fun n u hu => Tm.okA_small u (hU.okA n u hu)
 rw [uniB_eq h hb' hU hR]
 simp -implicitDefEqProofs only [h2, evF, ↓evZ, implies_true, seval, tf_S6_23]
 cases r with
 | false =>
  simp -implicitDefEqProofs only [evF, ↓evZ, implies_true, seval, tf_S6_23]
  exact ⟨by simp only [soft_agg, soft_tup, soft_int, soft_bool, soft_str, soft_slice, soft_fslice, soft_ptr, soft_pptr, soft_map, soft_mslice, Tm.soft, List.map_cons, List.map_nil, if_false, Bool.false_eq_true], hD2⟩
 | true =>
  simp -implicitDefEqProofs only [evF, ↓evZ, implies_true, seval, tf_S6_23]
  refine (c_all hU.uni.good hcv hsm c m q' _ hS2.sub).to ?_
  unfold allAv
  split
  · simp -implicitDefEqProofs only [evF, ↓evZ, implies_true, seval, tf_S6_23]
    exact ⟨by simp only [soft_agg, soft_tup, soft_int, soft_bool, soft_str, soft_slice, soft_fslice, soft_ptr, soft_pptr, soft_map, soft_mslice, Tm.soft, List.map_cons, List.map_nil, if_true], hD2⟩
  · simp -implicitDefEqProofs only [evF, ↓evZ, implies_true, seval, tf_S6_23]
    exact ⟨by simp only [soft_agg, soft_tup, soft_int, soft_bool, soft_str, soft_slice, soft_fslice, soft_ptr, soft_pptr, soft_map, soft_mslice, Tm.soft, List.map_cons, List.map_nil, if_true], hD2⟩
abbrev tf_Ts2_11 := zi tI_3 (zi zI_3 (zi underlying3 (zi tI_23 (zi zI_23 (zi eI_23 (zi eB_23 (zi eZ_23 (zi underlying23 (zi tI_31 (zi zI_31 (zi eI_31 (zi eB_31 (zi eZ_31 (zi underlying31 (zi tI_42 (zi zI_42 (zi fI_42_0 (zi fI_42_1 (zi fI_42_2 (zi fI_42_3 (zi bI_42 (zi tI_68 (zi zI_68 (zi fI_68_0 (zi fI_68_1 (zi fI_68_2 (zi fI_68_3 bI_68)))))))))))))))))))))))))))
abbrev tf_Ts2_105 := zi tI_3 (zi zI_3 (zi underlying3 (zi tI_4 (zi zI_4 (zi underlying4 (zi tI_31 (zi zI_31 (zi eI_31 (zi eB_31 (zi eZ_31 (zi underlying31 (zi tI_42 (zi zI_42 (zi fI_42_0 (zi fI_42_1 (zi fI_42_2 (zi fI_42_3 bI_42)))))))))))))))))
theorem c_EqualFuncTerm (l l' : List Tm) (g : FuncId) (st : zy7) (hc : ∀ x ∈ l, ∀ (y : Tm) (st : zy7), zq7 prog g [Tm.av x, Tm.av y] st (fun r st' => r = .bool (Tm.same x y) ∧ st' = st)) :
 zq7 prog 105 [.slice (l.map Tm.av), .slice (l'.map Tm.av), .func g []] st (fun r st' => r = .bool (eqL Tm.same l l') ∧ st' = st) := by
 refine wF [1000000] 3 func105 ntmps105 rfl rfl ?_
 simp only [fitsL, AV.fits, and_true, List.length_map]
 intro ⟨⟨hl, _⟩, ⟨hl', _⟩⟩
 simp -implicitDefEqProofs only [List.length_map, Tm.av_agg, Tm.av_width, Tm.av_store, Tm.av_junk, evF, ↓evZ, implies_true, seval, tf_Ts2_105]
 refine ⟨fun h4 => ?_, fun h4 => ?_⟩
 · simp -implicitDefEqProofs only [List.length_map, Tm.av_agg, Tm.av_width, Tm.av_store, Tm.av_junk, evF, ↓evZ, implies_true, seval, tf_Ts2_105]
   simp only [Bool.not_eq_true', decide_eq_false_iff_not] at h4
   rw [eqL_len _ (show l.length ≠ l'.length by omega)]
 simp only [Bool.not_eq_false', decide_eq_true_eq] at h4
 have h4' : l.length = l'.length := by omega
 simp -implicitDefEqProofs only [List.length_map, Tm.av_agg, Tm.av_width, Tm.av_store, Tm.av_junk, evF, ↓evZ, implies_true, seval, tf_Ts2_105]
 refine zy5 (σ := Unit) [1000000] [1, 2, 15, 16] l (fun i _ => ∀ (j : Nat) (x y : Tm), j < i → l[j]? = some x → l'[j]? = some y → Tm.same x y = true) (fun i _ => [(17, .int .i64 i)]) (fun _ _ => st) (by decide +kernel) ⟨(), by intro j x y h; omega, zx7.mk (by simp -implicitDefEqProofs only [List.length_map, Tm.av_agg, Tm.av_width, Tm.av_store, Tm.av_junk, evF, ↓evZ, implies_true, seval, tf_Ts2_105])⟩ (fun i x _ hx hlt hlt' hdr hall => ?_) (fun _ hge hall => ?_)
 case refine_2 =>
  simp -implicitDefEqProofs only [hge, List.length_map, Tm.av_agg, Tm.av_width, Tm.av_store, Tm.av_junk, evF, ↓evZ, implies_true, seval, tf_Ts2_105]
  rw [eqL_all _ h4' (fun j x y h6 h7 => hall j x y (by have := (List.getElem?_eq_some_iff.1 h6).1; omega) h6 h7)]
 obtain ⟨y, hy⟩ : ∃ y, l'[i]? = some y := ⟨_, List.getElem?_eq_getElem (h4' ▸ hlt)⟩
 have hw := wrap64 (n := (i : Int) + 1) (by omega) (by omega)
 simp -implicitDefEqProofs only [hlt', List.length_map, Tm.av_agg, Tm.av_width, Tm.av_store, Tm.av_junk, ev_at (av := Tm.av) eI_31 hx (Tm.av_width x), ev_at (av := Tm.av) eI_31 hy (Tm.av_width y), evF, ↓evZ, implies_true, seval, tf_Ts2_105]
 refine (hc x (List.mem_of_getElem? hx) y _).to ?_
 simp -implicitDefEqProofs only [List.length_map, Tm.av_agg, Tm.av_width, Tm.av_store, Tm.av_junk, ev_at (av := Tm.av) eI_31 hx (Tm.av_width x), ev_at (av := Tm.av) eI_31 hy (Tm.av_width y), evF, ↓evZ, implies_true, seval, tf_Ts2_105]
 refine ⟨fun h6 => ?_, fun h6 => ?_⟩
 · simp -implicitDefEqProofs only [List.length_map, Tm.av_agg, Tm.av_width, Tm.av_store, Tm.av_junk, ev_at (av := Tm.av) eI_31 hx (Tm.av_width x), ev_at (av := Tm.av) eI_31 hy (Tm.av_width y), evF, ↓evZ, implies_true, seval, tf_Ts2_105]
   have h7 : Tm.same x y = false := by simpa using h6
   rw [eqL_at _ i x y hx hy h7]
 have h7 : Tm.same x y = true := by simpa using h6
 simp -implicitDefEqProofs only [List.length_map, Tm.av_agg, Tm.av_width, Tm.av_store, Tm.av_junk, ev_at (av := Tm.av) eI_31 hx (Tm.av_width x), ev_at (av := Tm.av) eI_31 hy (Tm.av_width y), evF, ↓evZ, implies_true, seval, tf_Ts2_105]
 refine ⟨(), fun j u v hj hu hv => ?_, zx7.mk (by simp -implicitDefEqProofs only [hw, List.length_map, Tm.av_agg, Tm.av_width, Tm.av_store, Tm.av_junk, ev_at (av := Tm.av) eI_31 hx (Tm.av_width x), ev_at (av := Tm.av) eI_31 hy (Tm.av_width y), evF, ↓evZ, implies_true, seval, tf_Ts2_105])⟩
 rcases Nat.lt_or_ge j i with h8 | h8
 · exact hall j u v h8 hu hv
 · obtain rfl : j = i := by omega
   rw [hx] at hu; rw [hy] at hv; cases hu; cases hv; exact h7
abbrev tf_Ts2_41 := zi tI_3 (zi zI_3 (zi underlying3 (zi tI_9 (zi zI_9 (zi underlying9 (zi tI_23 (zi zI_23 (zi eI_23 (zi eB_23 (zi eZ_23 (zi underlying23 (zi tI_31 (zi zI_31 (zi eI_31 (zi eB_31 (zi eZ_31 (zi underlying31 (zi tI_42 (zi zI_42 (zi fI_42_0 (zi fI_42_1 (zi fI_42_2 (zi fI_42_3 (zi bI_42 (zi tI_68 (zi zI_68 (zi fI_68_0 (zi fI_68_1 (zi fI_68_2 (zi fI_68_3 bI_68))))))))))))))))))))))))))))))
abbrev tf_Ts2_69 := zi tI_3 (zi zI_3 (zi underlying3 (zi tI_4 (zi zI_4 (zi underlying4 (zi tI_9 (zi zI_9 (zi underlying9 (zi tI_31 (zi zI_31 (zi eI_31 (zi eB_31 (zi eZ_31 (zi underlying31 (zi tI_42 (zi zI_42 (zi fI_42_0 (zi fI_42_1 (zi fI_42_2 (zi fI_42_3 bI_42))))))))))))))))))))
theorem c_impl_TermSame : ∀ (a b : Tm) (st : zy7), zq7 prog 69 [a.av, b.av] st (fun r st' => r = .bool (a.same b) ∧ st' = st)
 | .mk k n s ts, .mk k' n' s' ts', st => by
  have hc := c_EqualFuncTerm ts ts' 69 st fun x hx y st => c_impl_TermSame x y st
  refine wF [] 2 func69 ntmps69 rfl rfl ?_
  intro _
  simp only [Tm.av_mk, Tm.same_mk]
  simp -implicitDefEqProofs only [evF, ↓evZ, implies_true, seval, tf_Ts2_69]
  refine zx4 (fun h1 => ?_) (fun h1 => ?_)
  case refine_2 =>
   simp -implicitDefEqProofs only [h1, evF, ↓evZ, implies_true, seval, tf_Ts2_69]
   simp at h1
   simp [h1]
  simp -implicitDefEqProofs only [h1, evF, ↓evZ, implies_true, seval, tf_Ts2_69]
  refine zx4 (fun h2 => ?_) (fun h2 => ?_)
  case refine_2 =>
   simp -implicitDefEqProofs only [h1, h2, evF, ↓evZ, implies_true, seval, tf_Ts2_69]
   simp at h2
   simp [h2]
  simp -implicitDefEqProofs only [h1, h2, evF, ↓evZ, implies_true, seval, tf_Ts2_69]
  refine zx4 (fun h3 => ?_) (fun h3 => ?_)
  case refine_2 =>
   simp -implicitDefEqProofs only [h1, h2, h3, evF, ↓evZ, implies_true, seval, tf_Ts2_69]
   simp at h3
   simp [h3]
  simp -implicitDefEqProofs only [h1, h2, h3, evF, ↓evZ, implies_true, seval, tf_Ts2_69]
  refine hc.to ?_
  simp -implicitDefEqProofs only [h1, h2, h3, evF, ↓evZ, implies_true, seval, tf_Ts2_69]
termination_by a => SizeOf.sizeOf a
decreasing_by have := List.sizeOf_lt_of_mem hx; simp only [Tm.mk.sizeOf_spec]; omega
abbrev tf_Ts2_178 := zi tI_3 (zi zI_3 (zi underlying3 (zi tI_4 (zi zI_4 (zi underlying4 (zi tI_9 (zi zI_9 (zi underlying9 (zi tI_31 (zi zI_31 (zi eI_31 (zi eB_31 (zi eZ_31 (zi underlying31 (zi tI_42 (zi zI_42 (zi fI_42_0 (zi fI_42_1 (zi fI_42_2 (zi fI_42_3 bI_42))))))))))))))))))))
theorem c_spec_TermSame : ∀ (a b : Tm) (st : zy7), zq7 prog 178 [a.av, b.av] st (fun r st' => r = .bool (a.same b) ∧ st' = st)
 | .mk k n s ts, .mk k' n' s' ts', st => by
  have hc := fun (x : Tm) (hx : x ∈ ts) y st => c_spec_TermSame x y st
  refine wF [] 2 func178 ntmps178 rfl rfl ?_
  simp only [Tm.av_mk, fitsL, AV.fits, and_true, List.length_map, Tm.same_mk]
  intro ⟨⟨_, _, _, hl, _⟩, ⟨_, _, _, hl', _⟩⟩
  simp -implicitDefEqProofs only [evF, ↓evZ, implies_true, seval, tf_Ts2_178]
  refine zx4 (fun h1 => ?_) (fun h1 => ?_)
  case refine_2 =>
   simp -implicitDefEqProofs only [h1, evF, ↓evZ, implies_true, seval, tf_Ts2_178]
   simp at h1
   simp [h1]
  simp -implicitDefEqProofs only [h1, evF, ↓evZ, implies_true, seval, tf_Ts2_178]
  refine zx4 (fun h2 => ?_) (fun h2 => ?_)
  case refine_2 =>
   simp -implicitDefEqProofs only [h1, h2, evF, ↓evZ, implies_true, seval, tf_Ts2_178]
   simp at h2
   simp [h2]
  simp -implicitDefEqProofs only [h1, h2, evF, ↓evZ, implies_true, seval, tf_Ts2_178]
  refine zx4 (fun h3 => ?_) (fun h3 => ?_)
  case refine_2 =>
   simp -implicitDefEqProofs only [h1, h2, h3, evF, ↓evZ, implies_true, seval, tf_Ts2_178]
   simp at h3
   simp [h3]
  simp -implicitDefEqProofs only [h1, h2, h3, List.length_map, evF, ↓evZ, implies_true, seval, tf_Ts2_178]
  refine ⟨fun h4 => ?_, fun h4 => ?_⟩
  · simp -implicitDefEqProofs only [evF, ↓evZ, implies_true, seval, tf_Ts2_178]
    simp only [Bool.not_eq_true', decide_eq_false_iff_not] at h4
    rw [eqL_len _ (show ts.length ≠ ts'.length by omega)]
    simp
  simp -implicitDefEqProofs only [evF, ↓evZ, implies_true, seval, tf_Ts2_178]
  simp only [Bool.not_eq_false', decide_eq_true_eq] at h1 h2 h3 h4
  have h4' : ts.length = ts'.length := by omega
  subst h1 h2 h3
  simp only [decide_true, Bool.true_and]
  refine zy6 (α := Nat) [] (fun i => i ≤ ts.length ∧ ∀ (j : Nat) (x y : Tm), j < i → ts[j]? = some x → ts'[j]? = some y → Tm.same x y = true)
   (fun i => [(2, .pptr (.agg [.int .i64 k, .int .i64 n, .str s, .slice (ts.map Tm.av)])), (3, .pptr (.agg [.int .i64 k, .int .i64 n, .str s, .slice (ts'.map Tm.av)])), (5, .int .i64 i)]) (fun _ => st) (fun i => ts.length - i) (by decide +kernel)
   ⟨0, ⟨by omega, by intro j x y h; omega⟩, zx7.mk (by simp -implicitDefEqProofs only [evF, ↓evZ, implies_true, seval, tf_Ts2_178])⟩ ?_
  intro i ⟨hi, hall⟩
  simp -implicitDefEqProofs only [List.length_map, evF, ↓evZ, implies_true, seval, tf_Ts2_178]
  refine ⟨fun h5 => ?_, fun h5 => ?_⟩
  case refine_2 =>
   simp -implicitDefEqProofs only [evF, ↓evZ, implies_true, seval, tf_Ts2_178]
   simp only [decide_eq_false_iff_not, Int.ofNat_lt] at h5
   rw [eqL_all _ h4' (fun j x y h6 h7 => hall j x y (by have := (List.getElem?_eq_some_iff.1 h6).1; omega) h6 h7)]
  simp only [decide_eq_true_eq, Int.ofNat_lt] at h5
  obtain ⟨x, hx⟩ : ∃ x, ts[i]? = some x := ⟨_, List.getElem?_eq_getElem h5⟩
  obtain ⟨y, hy⟩ : ∃ y, ts'[i]? = some y := ⟨_, List.getElem?_eq_getElem (h4' ▸ h5)⟩
  simp -implicitDefEqProofs only [evF, ↓evZ, implies_true, seval, tf_Ts2_178]
  refine arun_drawP mixed (by decide +kernel) (by decide +kernel) ?_
  simp -implicitDefEqProofs only [ev_at (av := Tm.av) eI_31 hx (Tm.av_width x), ev_at (av := Tm.av) eI_31 hy (Tm.av_width y), Tm.av_agg, Tm.av_width, evF, ↓evZ, implies_true, seval, tf_Ts2_178]
  refine (hc x (List.mem_of_getElem? hx) y st).to ?_
  simp -implicitDefEqProofs only [evF, ↓evZ, implies_true, seval, tf_Ts2_178]
  refine ⟨fun h6 => ?_, fun h6 => ?_⟩
  · simp -implicitDefEqProofs only [evF, ↓evZ, implies_true, seval, tf_Ts2_178]
    have h7 : Tm.same x y = false := by simpa using h6
    rw [eqL_at _ i x y hx hy h7]
  have h7 : Tm.same x y = true := by simpa using h6
  simp -implicitDefEqProofs only [evF, ↓evZ, implies_true, seval, tf_Ts2_178]
  refine ⟨i + 1, by omega, ⟨by omega, fun j u v hj hu hv => ?_⟩, zx7.mk ?_⟩
  · rcases Nat.lt_or_ge j i with h8 | h8
    · exact hall j u v h8 hu hv
    · obtain rfl : j = i := by omega
      rw [hx] at hu; rw [hy] at hv; cases hu; cases hv; exact h7
  · have := wrap64 (n := (i : Int) + 1) (by omega) (by omega)
    simp -implicitDefEqProofs only [this, evF, ↓evZ, implies_true, seval, tf_Ts2_178]
termination_by a => SizeOf.sizeOf a
decreasing_by have := List.sizeOf_lt_of_mem hx; simp only [Tm.mk.sizeOf_spec]; omega
abbrev tf_B4_205 := zi tI_3 (zi zI_3 (zi underlying3 (zi tI_4 (zi zI_4 underlying4))))
theorem c_holds (b : Bool) (st : zy7) : zq7 prog 205 [.bool b] st (fun r st' => r = .int .i64 (codeB b) ∧ st' = st) := by
 refine wF [1000000] 1 func205 ntmps205 rfl rfl ?_
 intro _
 simp -implicitDefEqProofs only [evF, ↓evZ, implies_true, seval, tf_B4_205]
 cases b
 · simp -implicitDefEqProofs only [codeB, evF, ↓evZ, implies_true, seval, tf_B4_205]
 · simp -implicitDefEqProofs only [codeB, evF, ↓evZ, implies_true, seval, tf_B4_205]
abbrev tf_B4_207 := zi tI_2 (zi zI_2 (zi underlying2 (zi tI_3 (zi zI_3 (zi underlying3 (zi tI_42 (zi zI_42 (zi fI_42_0 (zi fI_42_1 (zi fI_42_2 (zi fI_42_3 bI_42)))))))))))
theorem c_number (n : Int) (st : zy7) : zq7 prog 207 [.int .i64 n] st (fun r st' => r = (itm n).av ∧ st' = st) := by
 refine zq7.done ?_
 refine wF [1000000] 1 func207 ntmps207 rfl rfl ?_
 intro _
 simp -implicitDefEqProofs only [zy4, evF, ↓evZ, implies_true, seval, tf_B4_207]
 intro b hb
 unfold itm
 exact ⟨by simp only [Tm.av_mk, soft_agg, soft_tup, soft_int, soft_bool, soft_str, soft_slice, soft_fslice, soft_ptr, soft_pptr, soft_map, soft_mslice, Tm.soft, List.map_cons, List.map_nil, List.map_nil], (Drops.refl _).upd hb⟩
abbrev tf_B4_203 := zi tI_3 (zi zI_3 (zi underlying3 (zi tI_4 (zi zI_4 (zi underlying4 (zi tI_9 (zi zI_9 (zi underlying9 (zi tI_31 (zi zI_31 (zi eI_31 (zi eB_31 (zi eZ_31 (zi underlying31 (zi tI_42 (zi zI_42 (zi fI_42_0 (zi fI_42_1 (zi fI_42_2 (zi fI_42_3 (zi bI_42 (zi tI_142 (zi zI_142 (zi eI_142 (zi eB_142 (zi eZ_142 underlying142))))))))))))))))))))))))))
theorem c_compares (k n : Int) (s : ByteArray) (ts : List Tm) (st : zy7) : zq7 prog 203 [(Tm.mk k n s ts).av] st (fun r st' => r = .bool (decide (k = 3) && decide ((ts.length : Int) = 2) && inN cmpNames s) ∧ st' = st) := by
 simp only [Tm.av_mk]
 refine wF [1000000] 1 func203 ntmps203 rfl rfl ?_
 intro _
 simp -implicitDefEqProofs only [List.length_map, evF, ↓evZ, implies_true, seval, tf_B4_203]
 refine zx4 (fun h => ?_) (fun h => ?_)
 · simp -implicitDefEqProofs only [h, List.length_map, evF, ↓evZ, implies_true, seval, tf_B4_203]
   refine zx4 (fun h2 => ?_) (fun h2 => ?_)
   · simp -implicitDefEqProofs only [h2, List.length_map, evF, ↓evZ, implies_true, seval, tf_B4_203]
     refine (c_ContainsS' cmpNames s _).to ?_
     simp -implicitDefEqProofs only [h, h2, List.length_map, evF, ↓evZ, implies_true, seval, tf_B4_203]
     simp [h, h2, inN]
   · simp -implicitDefEqProofs only [h2, List.length_map, evF, ↓evZ, implies_true, seval, tf_B4_203]
     simp [h, h2]
 · simp -implicitDefEqProofs only [h, List.length_map, evF, ↓evZ, implies_true, seval, tf_B4_203]
   simp [h]
abbrev tf_B4_204 := zi tI_3 (zi zI_3 (zi underlying3 (zi tI_4 (zi zI_4 (zi underlying4 (zi tI_9 (zi zI_9 (zi underlying9 (zi tI_31 (zi zI_31 (zi eI_31 (zi eB_31 (zi eZ_31 (zi underlying31 (zi tI_42 (zi zI_42 (zi fI_42_0 (zi fI_42_1 (zi fI_42_2 (zi fI_42_3 bI_42))))))))))))))))))))
theorem c_compared (n : Int) (s : ByteArray) (x y : Tm) (hs : inN cmpNames s = true) {N : Int} (hx : OkV N x) (hy : OkV N y) (st : zy7) : zq7 prog 204 [(Tm.mk 3 n s [x, y]).av] st (fun r st' => r = .int .i64 (cmpC s x y) ∧ st' = st) := by
 have hat0 : aIndexAddr prog 31 (.slice [x.av, y.av]) (.int .i64 0) = some (.pptr x.av) := ev_at (av := Tm.av) (l := [x, y]) (i := 0) eI_31 rfl (Tm.av_width x)
 have hat1 : aIndexAddr prog 31 (.slice [x.av, y.av]) (.int .i64 1) = some (.pptr y.av) := ev_at (av := Tm.av) (l := [x, y]) (i := 1) eI_31 rfl (Tm.av_width y)
 have hax := fun st => c_arith x st hx
 have hay := fun st => c_arith y st hy
 unfold cmpC both
 simp only [Tm.av_mk, List.map_cons, List.map_nil]
 refine wF [1000000] 1 func204 ntmps204 rfl rfl ?_
 intro _
 simp -implicitDefEqProofs only [hat0, hat1, Tm.av_agg, Tm.av_width, evF, ↓evZ, implies_true, seval, tf_B4_204]
 refine (hax _).to ?_
 generalize x.ev.1 = a at *
 generalize x.ev.2 = ca at *
 generalize y.ev.1 = b at *
 generalize y.ev.2 = cb at *
 simp -implicitDefEqProofs only [hat0, hat1, Tm.av_agg, Tm.av_width, evF, ↓evZ, implies_true, seval, tf_B4_204]
 refine zq4 (fun h4 => ?_) (fun h4 => ?_)
 · simp -implicitDefEqProofs only [hat0, hat1, Tm.av_agg, Tm.av_width, evF, ↓evZ, implies_true, seval, tf_B4_204]
   have h4' : ca ≠ 0 := by simpa using h4
   rw [if_pos h4']
 have h4' : ca = 0 := by simpa using h4
 subst h4'
 rw [if_neg (by simp)]
 simp -implicitDefEqProofs only [hat0, hat1, Tm.av_agg, Tm.av_width, evF, ↓evZ, implies_true, seval, tf_B4_204]
 refine (hay _).to ?_
 simp -implicitDefEqProofs only [hat0, hat1, Tm.av_agg, Tm.av_width, evF, ↓evZ, implies_true, seval, tf_B4_204]
 refine zq4 (fun h5 => ?_) (fun h5 => ?_)
 · simp -implicitDefEqProofs only [hat0, hat1, Tm.av_agg, Tm.av_width, evF, ↓evZ, implies_true, seval, tf_B4_204]
   have h5' : cb ≠ 0 := by simpa using h5
   rw [if_pos h5']
 have h5' : cb = 0 := by simpa using h5
 subst h5'
 rw [if_neg (by simp)]
 unfold cmpH
 simp -implicitDefEqProofs only [hat0, hat1, Tm.av_agg, Tm.av_width, evF, ↓evZ, implies_true, seval, tf_B4_204]
 refine zq4 (fun h6 => ?_) (fun h6 => ?_)
 · simp -implicitDefEqProofs only [hat0, hat1, Tm.av_agg, Tm.av_width, evF, ↓evZ, implies_true, seval, tf_B4_204]
   rw [if_pos (by simpa using h6)]
   refine (c_holds _ _).to ?_
   simp -implicitDefEqProofs only [hat0, hat1, Tm.av_agg, Tm.av_width, evF, ↓evZ, implies_true, seval, tf_B4_204]
 rw [if_neg (by simpa using h6)]
 simp -implicitDefEqProofs only [hat0, hat1, Tm.av_agg, Tm.av_width, evF, ↓evZ, implies_true, seval, tf_B4_204]
 refine zq4 (fun h7 => ?_) (fun h7 => ?_)
 · simp -implicitDefEqProofs only [hat0, hat1, Tm.av_agg, Tm.av_width, evF, ↓evZ, implies_true, seval, tf_B4_204]
   rw [if_pos (by simpa using h7)]
   refine (c_holds _ _).to ?_
   simp -implicitDefEqProofs only [hat0, hat1, Tm.av_agg, Tm.av_width, evF, ↓evZ, implies_true, seval, tf_B4_204]
 rw [if_neg (by simpa using h7)]
 simp -implicitDefEqProofs only [hat0, hat1, Tm.av_agg, Tm.av_width, evF, ↓evZ, implies_true, seval, tf_B4_204]
 refine zq4 (fun h8 => ?_) (fun h8 => ?_)
 · simp -implicitDefEqProofs only [hat0, hat1, Tm.av_agg, Tm.av_width, evF, ↓evZ, implies_true, seval, tf_B4_204]
   rw [if_pos (by simpa using h8)]
   refine (c_holds _ _).to ?_
   simp -implicitDefEqProofs only [hat0, hat1, Tm.av_agg, Tm.av_width, evF, ↓evZ, implies_true, seval, tf_B4_204]
 rw [if_neg (by simpa using h8)]
 simp -implicitDefEqProofs only [hat0, hat1, Tm.av_agg, Tm.av_width, evF, ↓evZ, implies_true, seval, tf_B4_204]
 refine zq4 (fun h9 => ?_) (fun h9 => ?_)
 · simp -implicitDefEqProofs only [hat0, hat1, Tm.av_agg, Tm.av_width, evF, ↓evZ, implies_true, seval, tf_B4_204]
   rw [if_pos (by simpa using h9)]
   refine (c_holds _ _).to ?_
   simp -implicitDefEqProofs only [hat0, hat1, Tm.av_agg, Tm.av_width, evF, ↓evZ, implies_true, seval, tf_B4_204]
 rw [if_neg (by simpa using h9)]
 simp -implicitDefEqProofs only [hat0, hat1, Tm.av_agg, Tm.av_width, evF, ↓evZ, implies_true, seval, tf_B4_204]
 refine (c_holds _ _).to ?_
 simp -implicitDefEqProofs only [hat0, hat1, Tm.av_agg, Tm.av_width, evF, ↓evZ, implies_true, seval, tf_B4_204]
theorem kids0 {ts : List Tm} (h : ts.length = 0) : ts = [] := List.eq_nil_of_length_eq_zero h
theorem kids1 {ts : List Tm} (h : ts.length = 1) : ∃ x, ts = [x] := by
 match ts, h with
 | [x], _ => exact ⟨x, rfl⟩
theorem kids2 {ts : List Tm} (h : ts.length = 2) : ∃ x y, ts = [x, y] := by
 match ts, h with
 | [x, y], _ => exact ⟨x, y, rfl⟩
theorem kids3 {ts : List Tm} (h : ts.length = 3) : ∃ x y z, ts = [x, y, z] := by
 match ts, h with
 | [x, y, z], _ => exact ⟨x, y, z, rfl⟩
theorem wk_wk {σ : Sub} {f : Nat} {t u : Tm} (h : WkN σ f t u) : wk σ u = u := (WkN.stop h.end).wk
end Go.AW
namespace Go.AW

end Go.AW
namespace Go.AW
open Go.Proofs.Tryz
theorem sumL_take_le' {α : Type} (f : α → Nat) (l : List α) (i : Nat) : sumL f (l.take i) ≤ sumL f l := by
 have := sumL_append f (l.take i) (l.drop i)
 rw [List.take_append_drop] at this
 omega
def Full (v : Tm) (room : Nat) (st : zy7) (r : AV) (st' : zy7) : Prop :=
 st' = st ∧ ∃ (x : Tm) (left : Int), r = .tup [x.av, .int .i64 left] ∧ -1 ≤ left ∧ if v.nodes ≤ room then x = v ∧ left = (room : Int) - v.nodes else left < 0
abbrev Bt := Fin 256
def byteAv (b : Bt) : AV := .int .u8 (b.val : Int)
theorem byteAv_width (b : Bt) : (byteAv b).width = 1 := rfl
def RdAt (st : zy7) (c : Nat) (bs : List Bt) (p : Nat) : Prop := st c = some (.cells [.slice (bs.map byteAv), .int .i64 (p : Int)])
def rdC (bs : List Bt) (p : Nat) : AO := .cells [.slice (bs.map byteAv), .int .i64 (p : Int)]
theorem tmod_nat (a b : Nat) : (a : Int).tmod (b : Int) = ((a % b : Nat) : Int) := (Int.ofNat_tmod a b).symm
theorem tdiv_nat (a b : Nat) : (a : Int).tdiv (b : Int) = ((a / b : Nat) : Int) := (Int.ofNat_tdiv a b).symm
theorem aXor_nat (a b : Nat) (ha : a < 2 ^ 62) (hb : b < 2 ^ 62) : ∃ m : Nat, aXor .i64 (a : Int) (b : Int) = (m : Int) := by
 have hx := Nat.xor_lt_two_pow ha hb
 refine ⟨a ^^^ b, ?_⟩
 unfold aXor
 show IntKind.i64.wrap (((BitVec.ofInt 64 (a : Int) ^^^ BitVec.ofInt 64 (b : Int)).toNat : Nat) : Int) = _
 rw [BitVec.ofInt_natCast, BitVec.ofInt_natCast, BitVec.toNat_xor, BitVec.toNat_ofNat, BitVec.toNat_ofNat, Nat.mod_eq_of_lt (by omega), Nat.mod_eq_of_lt (by omega)]
 rw [wrap64 (by omega) (by omega)]
abbrev tf_D1_73 := zi tI_3 (zi zI_3 (zi underlying3 (zi tI_5 (zi zI_5 (zi underlying5 (zi tI_40 (zi zI_40 (zi eI_40 (zi eB_40 (zi eZ_40 (zi underlying40 (zi tI_99 (zi zI_99 (zi tI_139 (zi zI_139 (zi fI_139_0 (zi fI_139_1 bI_139)))))))))))))))))
theorem c_pick (bs : List Bt) (c p : Nat) (hp : p ≤ 1099511627776) (n : Nat) (hn : 1 ≤ n) (hn2 : n ≤ 1048576) (st : zy7) (h : RdAt st c bs p) :
 zq7 prog 73 [.ptr c 0, .int .i64 (n : Int)] st (fun r st' => ∃ k : Nat, k < n ∧ r = .int .i64 (k : Int) ∧ st' = st.upd c (rdC bs (p + 1))) := by
 unfold RdAt at h
 refine wF [1000000] 2 func73 ntmps73 rfl rfl ?_
 intro _
 have hw1 : IntKind.i64.wrap ((p : Int) + 1) = (p : Int) + 1 := wrap64 (by omega) (by omega)
 simp -implicitDefEqProofs only [zy4, h, hw1, evF, ↓evZ, implies_true, seval, tf_D1_73]
 have hn1 : ¬ (n : Int) < 1 := by omega
 have hw2 : IntKind.i64.wrap ((p : Int) + 1 - 1) = (p : Int) := by rw [wrap64 (by omega) (by omega)]; omega
 have hst : ∀ (q : zy7), q c = some (.cells [.slice (bs.map byteAv), .int .i64 ((p : Int) + 1)]) → True := fun _ _ => trivial
 have hrd : rdC bs (p + 1) = .cells [.slice (bs.map byteAv), .int .i64 ((p : Int) + 1)] := by simp [rdC]
 rw [hrd]
 refine zx4 (fun h1 => ?_) (fun h1 => ?_)
 case refine_2 => simp [hn1] at h1
 simp -implicitDefEqProofs only [decide_false, beq_self_eq_true, zy4, hw1, hw2, hn1, List.length_map, evF, ↓evZ, implies_true, seval, tf_D1_73]
 refine zq4 (fun h2 => ?_) (fun h2 => ?_)
 · simp -implicitDefEqProofs only [zy4, hw1, hw2, hn1, List.length_map, evF, ↓evZ, implies_true, seval, tf_D1_73]
   exact ⟨0, by omega, rfl⟩
 simp -implicitDefEqProofs only [zy4, hw1, hw2, hn1, List.length_map, evF, ↓evZ, implies_true, seval, tf_D1_73]
 have hbl : bs.length ≠ 0 := by simpa using h2
 refine zq4 (fun h3 => ?_) (fun h3 => ?_)
 · simp only [decide_eq_true_eq] at h3
   obtain ⟨x, hx⟩ : ∃ x, bs[p]? = some x := ⟨_, List.getElem?_eq_getElem (by omega)⟩
   have hx2 := x.isLt
   have hb1 : IntKind.i64.wrap (x.val : Int) = (x.val : Int) := wrap64 (by omega) (by omega)
   have hn0 : ¬ (n : Int) = 0 := by omega
   have hatx : aIndexAddr prog 40 (.slice (bs.map byteAv)) (.int .i64 (p : Int)) = some (.pptr (.int .u8 x.val)) := ev_at (av := byteAv) eI_40 hx (byteAv_width x)
   simp -implicitDefEqProofs only [hatx, aConvert, hb1, hn0, zy4, hw1, hw2, hn1, List.length_map, evF, ↓evZ, implies_true, seval, tf_D1_73]
   exact ⟨x.val % n, Nat.mod_lt _ (by omega), by rw [tmod_nat]⟩
 · simp only [decide_eq_false_iff_not] at h3
   obtain ⟨x, hx⟩ : ∃ x, bs[p % bs.length]? = some x := ⟨_, List.getElem?_eq_getElem (Nat.mod_lt _ (by omega))⟩
   obtain ⟨y, hy⟩ : ∃ y, bs[(p * 7 + 3) % bs.length]? = some y := ⟨_, List.getElem?_eq_getElem (Nat.mod_lt _ (by omega))⟩
   have hx2 := x.isLt
   have hy2 := y.isLt
   have hl0 : ¬ (bs.length : Int) = 0 := by omega
   simp -implicitDefEqProofs only [zy4, hw1, hw2, hn1, List.length_map, evF, ↓evZ, implies_true, seval, tf_D1_73]
   refine zq5 [(0, 1), (1, 1), (2, 1), (3, 1), (4, 1), (5, 1), (6, 1), (7, 1), (8, 1), (9, 1), (10, 1), (11, 1), (12, 1), (13, 1), (14, 1), (15, 1), (16, 1), (17, 1), (18, 1), (19, 1), (20, 1), (21, 1), (22, 1), (23, 1), (24, 1), (25, 1), (26, 1), (27, 1), (28, 1), (29, 1), (30, 1), (31, 1), (32, 1), (33, 1), (34, 1), (35, 1), (36, 1), (37, 1), (38, 1), (39, 1), (40, 1), (41, 1), (42, 1), (43, 1), (44, 1), (45, 1)] [0, 1, 2, 3, 4, 5, 6, 7, 8, 9, 10, 11, 12, 13, 14, 15, 16, 17, 18, 19, 20, 21, 22, 23, 24, 25, 26, 27, 28, 29, 30, 31, 32, 33, 34, 35, 36, 37, 38, 39, 40, 41, 42, 43, 44, 45] (none0'.upd c (.cells [.slice (bs.map byteAv), .int .i64 ((p : Int) + 1)])) mixed (by decide +kernel) (by decide +kernel) (by decide +kernel) rfl (ext_one (zy7.upd_same _ _ _)) ?_
   have e7 : IntKind.i64.wrap ((p : Int) * 7) = (p : Int) * 7 := wrap64 (by omega) (by omega)
   have e8 : IntKind.i64.wrap ((p : Int) * 7 + 3) = (p : Int) * 7 + 3 := wrap64 (by omega) (by omega)
   have e9 : ((p : Int) * 7 + 3).tmod (bs.length : Int) = (((p * 7 + 3) % bs.length : Nat) : Int) := by rw [← tmod_nat]; congr 1
   have f1 : IntKind.i64.wrap ((x.val : Int) * 131) = (x.val : Int) * 131 := wrap64 (by omega) (by omega)
   have f2 : IntKind.i64.wrap ((y.val : Int) * 1117) = (y.val : Int) * 1117 := wrap64 (by omega) (by omega)
   have f3 : IntKind.i64.wrap ((x.val : Int) * 131 + (y.val : Int) * 1117) = (x.val : Int) * 131 + (y.val : Int) * 1117 := wrap64 (by omega) (by omega)
   have f4 : IntKind.i64.wrap ((p : Int) * 29) = (p : Int) * 29 := wrap64 (by omega) (by omega)
   have f5 : IntKind.i64.wrap ((x.val : Int) * 131 + (y.val : Int) * 1117 + (p : Int) * 29) = (x.val : Int) * 131 + (y.val : Int) * 1117 + (p : Int) * 29 := wrap64 (by omega) (by omega)
   have hb1 : IntKind.i64.wrap (x.val : Int) = (x.val : Int) := wrap64 (by omega) (by omega)
   have hb2 : IntKind.i64.wrap (y.val : Int) = (y.val : Int) := wrap64 (by omega) (by omega)
   generalize hjx : p % bs.length = jx at *
   generalize hjy : (p * 7 + 3) % bs.length = jy at *
   have e10 : (p : Int).tmod (bs.length : Int) = (jx : Int) := by rw [tmod_nat, hjx]
   have hatx : aIndexAddr prog 40 (.slice (bs.map byteAv)) (.int .i64 (jx : Int)) = some (.pptr (.int .u8 x.val)) := ev_at (av := byteAv) eI_40 hx (byteAv_width x)
   have haty : aIndexAddr prog 40 (.slice (bs.map byteAv)) (.int .i64 (jy : Int)) = some (.pptr (.int .u8 y.val)) := ev_at (av := byteAv) eI_40 hy (byteAv_width y)
   have hdv : p / bs.length ≤ p := Nat.div_le_self _ _
   generalize hq : p / bs.length = q at *
   have hqq : IntKind.i64.wrap ((p : Int).tdiv (bs.length : Int)) = (q : Int) := by rw [tdiv_nat, hq, wrap64 (by omega) (by omega)]
   have f6 : IntKind.i64.wrap ((q : Int) * 53) = (q : Int) * 53 := wrap64 (by omega) (by omega)
   obtain ⟨z, hz, hz2⟩ : ∃ z : Nat, (x.val : Int) * 131 + (y.val : Int) * 1117 + (p : Int) * 29 + (q : Int) * 53 = (z : Int) ∧ z < 2 ^ 61 := ⟨x.val * 131 + y.val * 1117 + p * 29 + q * 53, by omega, by omega⟩
   have f7 : IntKind.i64.wrap ((x.val : Int) * 131 + (y.val : Int) * 1117 + (p : Int) * 29 + (q : Int) * 53) = (z : Int) := by rw [hz]; exact wrap64 (by omega) (by omega)
   have hz64 : z / 64 ≤ z := Nat.div_le_self _ _
   obtain ⟨m, hm⟩ := aXor_nat z (z / 64) (by omega) (by omega)
   have f8 : IntKind.i64.wrap ((z : Int).tdiv 64) = ((z / 64 : Nat) : Int) := by rw [show (64 : Int) = ((64 : Nat) : Int) from rfl, tdiv_nat, wrap64 (by omega) (by omega)]
   generalize z / 64 = z2 at *
   have hn0 : ¬ (n : Int) = 0 := by omega
   simp -implicitDefEqProofs only [zy4, hw1, hw2, hn1, List.length_map, hl0, e7, e8, e9, e10, f1, f2, f3, f4, f5, f6, f7, f8, hm, hn0, hatx, haty, hb1, hb2, hqq, aConvert, evF, ↓evZ, implies_true, seval, tf_D1_73]
   exact ⟨m % n, Nat.mod_lt _ (by omega), rfl⟩
abbrev tf_D2_80 := zi tI_3 (zi zI_3 (zi underlying3 (zi tI_58 (zi zI_58 (zi eI_58 (zi eB_58 (zi eZ_58 (zi underlying58 (zi tI_99 zI_99)))))))))
theorem c_num (l : List Int) (h1 : 1 ≤ l.length) (h2 : l.length ≤ 1048576) (bs : List Bt) (c p : Nat) (hp : p ≤ 1099511627776) (st : zy7) (h : RdAt st c bs p) :
 zq7 prog 80 [.ptr c 0, .slice (l.map iv)] st (fun r st' => ∃ x ∈ l, r = .int .i64 x ∧ st' = st.upd c (rdC bs (p + 1))) := by
 refine wF [1000000] 2 func80 ntmps80 rfl rfl ?_
 intro _
 simp -implicitDefEqProofs only [List.length_map, evF, ↓evZ, implies_true, seval, tf_D2_80]
 refine (c_pick bs c p hp l.length h1 h2 st h).mono ?_
 rintro _ _ ⟨k, hk, rfl, rfl⟩
 obtain ⟨x, hx⟩ : ∃ x, l[k]? = some x := ⟨_, List.getElem?_eq_getElem hk⟩
 have hat := ev_at (av := iv) eI_58 hx rfl
 simp -implicitDefEqProofs only [hat, List.length_map, evF, ↓evZ, implies_true, seval, tf_D2_80]
 exact ⟨x, List.mem_of_getElem? hx, rfl⟩
theorem c_numF (l : List Int) (h1 : 1 ≤ l.length) (h2 : l.length ≤ 1048576) (bs : List Bt) (c p : Nat) (hp : p ≤ 1099511627776) (st : zy7) (h : RdAt st c bs p) :
 zq7 prog 80 [.ptr c 0, .fslice (l.map iv)] st (fun r st' => ∃ x ∈ l, r = .int .i64 x ∧ st' = st.upd c (rdC bs (p + 1))) :=
 zq7.softArgs (by simp only [softL, AV.soft]; exact c_num l h1 h2 bs c p hp st h)
abbrev tf_D2_116 := zi tI_3 (zi zI_3 (zi underlying3 (zi tI_9 (zi zI_9 (zi underlying9 (zi tI_99 (zi zI_99 (zi tI_142 (zi zI_142 (zi eI_142 (zi eB_142 (zi eZ_142 underlying142))))))))))))
theorem c_of (l : List ByteArray) (h1 : 1 ≤ l.length) (h2 : l.length ≤ 1048576) (bs : List Bt) (c p : Nat) (hp : p ≤ 1099511627776) (st : zy7) (h : RdAt st c bs p) :
 zq7 prog 116 [.ptr c 0, .slice (l.map AV.str)] st (fun r st' => ∃ x ∈ l, r = .str x ∧ st' = st.upd c (rdC bs (p + 1))) := by
 refine wF [1000000] 2 func116 ntmps116 rfl rfl ?_
 intro _
 simp -implicitDefEqProofs only [List.length_map, evF, ↓evZ, implies_true, seval, tf_D2_116]
 refine (c_pick bs c p hp l.length h1 h2 st h).mono ?_
 rintro _ _ ⟨k, hk, rfl, rfl⟩
 obtain ⟨x, hx⟩ : ∃ x, l[k]? = some x := ⟨_, List.getElem?_eq_getElem hk⟩
 have hat := ev_at (av := AV.str) eI_142 hx rfl
 simp -implicitDefEqProofs only [hat, List.length_map, evF, ↓evZ, implies_true, seval, tf_D2_116]
 exact ⟨x, List.mem_of_getElem? hx, rfl⟩
theorem c_ofF (l : List ByteArray) (h1 : 1 ≤ l.length) (h2 : l.length ≤ 1048576) (bs : List Bt) (c p : Nat) (hp : p ≤ 1099511627776) (st : zy7) (h : RdAt st c bs p) :
 zq7 prog 116 [.ptr c 0, .fslice (l.map AV.str)] st (fun r st' => ∃ x ∈ l, r = .str x ∧ st' = st.upd c (rdC bs (p + 1))) :=
 zq7.softArgs (by simp only [softL, AV.soft]; exact c_of l h1 h2 bs c p hp st h)
abbrev tf_D2_72 := zi tI_3 (zi zI_3 (zi underlying3 (zi tI_40 (zi zI_40 (zi eI_40 (zi eB_40 (zi eZ_40 (zi underlying40 (zi tI_99 (zi zI_99 (zi tI_139 (zi zI_139 (zi fI_139_0 (zi fI_139_1 bI_139))))))))))))))
theorem c_l18Open (bs : List Bt) (st : zy7) : zq7 prog 72 [.slice (bs.map byteAv)] st (fun r st' => ∃ c bs', r = .ptr c 0 ∧ st c = none ∧ st' = st.upd c (rdC bs' 0)) := by
 refine wF [1000000, 10] 1 func72 ntmps72 rfl rfl ?_
 simp only [fitsL, AV.fits, and_true, List.length_map]
 intro ⟨hl, _⟩
 have hs : bs.length > 2000 → ∀ φ, aSlice prog φ 40 (.slice (bs.map byteAv)) none (some (.const (.int .i64 2000))) none = some (.slice ((bs.take 2000).map byteAv)) := fun h φ => by
  have h2 : ((0 : Int) ≤ 2000 ∧ (2000 : Int) ≤ (bs.map byteAv).length) := ⟨by omega, by rw [List.length_map]; omega⟩
  have h3 : aBound φ (some (.const (.int .i64 2000))) (bs.map byteAv).length (bs.map byteAv).length = some 2000 := by
   show (if ((0 : Int) ≤ 2000 ∧ (2000 : Int) ≤ (bs.map byteAv).length) then some (Int.toNat 2000) else none) = some 2000
   exact if_pos h2
  unfold aSlice aSlice0
  rw [if_neg (by simp [isF0])]
  simp only [eI_40]
  have h4 : aBound φ none (bs.map byteAv).length (bs.map byteAv).length = some (bs.map byteAv).length := rfl
  rw [h4]
  simp only [h3]
  have h5 : aBound φ none 0 2000 = some 0 := rfl
  rw [h5]
  simp
 simp -implicitDefEqProofs only [List.length_map, evF, ↓evZ, implies_true, seval, tf_D2_72]
 refine zq4 (fun h => ?_) (fun h => ?_)
 · simp only [decide_eq_true_eq] at h
   have hs' := hs (by omega)
   simp -implicitDefEqProofs only [hs', List.length_map, evF, ↓evZ, implies_true, seval, tf_D2_72]
   intro b hb
   exact ⟨b, bs.take 2000, rfl, hb, by simp [rdC]⟩
 · simp -implicitDefEqProofs only [List.length_map, evF, ↓evZ, implies_true, seval, tf_D2_72]
   intro b hb
   exact ⟨b, bs, rfl, hb, by simp [rdC]⟩
abbrev tf_D2_113 := zi tI_3 (zi zI_3 (zi underlying3 (zi tI_42 (zi zI_42 (zi fI_42_0 (zi fI_42_1 (zi fI_42_2 (zi fI_42_3 bI_42))))))))
theorem c_l1Var (n : Int) (st : zy7) : zq7 prog 113 [.int .i64 n] st (fun r st' => r = (vr n).av ∧ st' = st) := by
 refine zq7.done ?_
 refine wF [1000000] 1 func113 ntmps113 rfl rfl ?_
 intro _
 simp -implicitDefEqProofs only [zy4, evF, ↓evZ, implies_true, seval, tf_D2_113]
 intro b hb
 exact ⟨by simp only [vr, Tm.av_mk, soft_agg, soft_tup, soft_int, soft_bool, soft_str, soft_slice, soft_fslice, soft_ptr, soft_pptr, soft_map, soft_mslice, Tm.soft, List.map_cons, List.map_nil], (Drops.refl _).upd hb⟩
abbrev tf_D2_114 := zi tI_2 (zi zI_2 (zi underlying2 (zi tI_3 (zi zI_3 (zi underlying3 (zi tI_42 (zi zI_42 (zi fI_42_0 (zi fI_42_1 (zi fI_42_2 (zi fI_42_3 bI_42)))))))))))
theorem c_l1Int (n : Int) (st : zy7) : zq7 prog 114 [.int .i64 n] st (fun r st' => r = (Tm.mk 2 n ⟨#[]⟩ []).av ∧ st' = st) := by
 refine zq7.done ?_
 refine wF [1000000] 1 func114 ntmps114 rfl rfl ?_
 intro _
 simp -implicitDefEqProofs only [zy4, evF, ↓evZ, implies_true, seval, tf_D2_114]
 intro b hb
 exact ⟨by simp only [vr, Tm.av_mk, soft_agg, soft_tup, soft_int, soft_bool, soft_str, soft_slice, soft_fslice, soft_ptr, soft_pptr, soft_map, soft_mslice, Tm.soft, List.map_cons, List.map_nil], (Drops.refl _).upd hb⟩
abbrev tf_D2_115 := zi tI_3 (zi zI_3 (zi underlying3 (zi tI_9 (zi zI_9 (zi underlying9 (zi tI_31 (zi zI_31 (zi eI_31 (zi eB_31 (zi eZ_31 (zi underlying31 (zi tI_42 (zi zI_42 (zi fI_42_0 (zi fI_42_1 (zi fI_42_2 (zi fI_42_3 bI_42)))))))))))))))))
theorem c_l1Struct (s : ByteArray) (l : List Tm) (hl : l.length ≤ 1048576) (st : zy7) : zq7 prog 115 [.str s, .slice (l.map Tm.av)] st (fun r st' => r = (Tm.mk 3 0 s l).av ∧ st' = st) := by
 refine zq7.drop2 (zq7.fin ?_)
 refine wF [1000000] 2 func115 ntmps115 rfl rfl ?_
 intro _
 simp -implicitDefEqProofs only [zy4, evF, ↓evZ, implies_true, seval, tf_D2_115]
 intro b hb
 change aAppend prog 31 (accS (st.upd b (.cells [.int .i64 0, .int .i64 0, .str ⟨#[]⟩, .fslice []])) 0 []) (accV 4 0 []) (.slice (l.map Tm.av)) _
 refine acc_append eI_31 eB_31 eZ_31 rfl rfl (by intro e he; simp only [List.mem_map] at he; obtain ⟨t, _, rfl⟩ := he; exact ⟨Tm.av_width _, Tm.av_store _⟩) (by simp) (fun h => absurd rfl h) (by simp only [List.length_nil, List.length_map]; omega) (by simp only [List.length_nil, List.length_map]; omega) (fun b' hb' => ?_)
 rw [List.nil_append] at hb' ⊢
 have hne : l.map Tm.av ≠ [] → b ≠ b' := fun h e => by have := hb' h; rw [← e, zy7.upd_same] at this; cases this
 have h1 : accS (st.upd b (.cells [.int .i64 0, .int .i64 0, .str ⟨#[]⟩, .fslice []])) b' (l.map Tm.av) b = some (.cells [.int .i64 0, .int .i64 0, .str ⟨#[]⟩, .fslice []]) := by
  by_cases h : l.map Tm.av = []
  · rw [h, accS_nil, zy7.upd_same]
  · rw [accS_ne (hne h), zy7.upd_same]
 simp -implicitDefEqProofs only [zy4, h1, accV_cells, accV_store, accV_agg, accV_width, accV_junk, evF, ↓evZ, implies_true, seval, tf_D2_115]
 rw [accS_upd hne, zy7.upd_upd]
 exact ⟨b', l.map Tm.av, st.upd b _, rfl, fun h => by rw [zy7.upd_ne _ _ (Ne.symm (hne h))]; have := hb' h; rwa [zy7.upd_ne _ _ (Ne.symm (hne h))] at this, tm_junk _, ⟨4, tm_widths _⟩, by simp only [Tm.av_mk, fin_agg, fin_tup, fin_int, fin_bool, fin_str, fin_slice, fin_fslice, fin_pptr, fin_ptr, fin_func, fin_map, fin_undef, fin_accV, tm_fin, List.map_cons, List.map_nil], (Drops.refl _).upd hb⟩
theorem c_l1StructF (s : ByteArray) (l : List Tm) (hl : l.length ≤ 1048576) (st : zy7) : zq7 prog 115 [.str s, .fslice (l.map Tm.av)] st (fun r st' => r = (Tm.mk 3 0 s l).av ∧ st' = st) :=
 zq7.softArgs (by simp only [softL, AV.soft]; exact c_l1Struct s l hl st)
theorem c_l1Struct0 (s : ByteArray) (st : zy7) : zq7 prog 115 [.str s, .fslice []] st (fun r st' => r = .agg [.int .i64 3, .int .i64 0, .str s, .fslice []] ∧ st' = st) := by
 refine zq7.drop ?_
 refine wF [1000000] 2 func115 ntmps115 rfl rfl ?_
 intro _
 simp -implicitDefEqProofs only [zy4, evF, ↓evZ, implies_true, seval, tf_D2_115]
 intro b hb
 change aAppend prog 31 (accS (st.upd b (.cells [.int .i64 0, .int .i64 0, .str ⟨#[]⟩, .fslice []])) 0 []) (accV 4 0 []) (.fslice ([] : List AV)) _
 refine acc_append eI_31 eB_31 eZ_31 rfl rfl (by simp [appFit]) (by simp) (fun h => absurd rfl h) (by simp) (by simp) (fun b' hb' => ?_)
 simp only [List.append_nil, accV_nil, accS_nil]
 simp -implicitDefEqProofs only [zy4, evF, ↓evZ, implies_true, seval, tf_D2_115]
 exact (Drops.refl _).upd hb
abbrev Dn (t : Tm) : Prop := t.cv = true ∧ t.small = true
theorem dn_vr (n : Int) : Dn (vr n) := by
 refine ⟨Tm.cv_mk.2 ⟨fun _ => ⟨rfl, rfl⟩, fun x hx => by cases hx⟩, ?_⟩
 simp [vr, Tm.small, tmsSmall]
theorem dn_mk {k n : Int} {s : ByteArray} {ts : List Tm} (hk : k ≠ 1) (hl : ts.length ≤ 1048576) (h : ∀ x ∈ ts, Dn x) : Dn (.mk k n s ts) := by
 refine ⟨Tm.cv_mk.2 ⟨fun h => absurd h hk, fun x hx => (h x hx).1⟩, ?_⟩
 simp only [Tm.small, tmsSmall_all, Bool.and_eq_true, decide_eq_true_eq, List.all_eq_true]
 exact ⟨hl, fun x hx => (h x hx).2⟩
def Dr (bs : List Bt) (c p m : Nat) (st : zy7) (Q : AV → Prop) (r : AV) (st' : zy7) : Prop := ∃ p', p ≤ p' ∧ p' ≤ p + m ∧ st' = st.upd c (rdC bs p') ∧ Q r
def DrT (r : AV) : Prop := ∃ t : Tm, Dn t ∧ r = t.av
theorem RdAt.upd {st : zy7} {c p : Nat} {bs : List Bt} {b : Nat} {o : AO} (h : RdAt st c bs p) (hb : b ≠ c) : RdAt (st.upd b o) c bs p := by unfold RdAt; rw [zy7.upd_ne _ _ (Ne.symm hb)]; exact h
theorem RdAt.new {st : zy7} {c p : Nat} {bs : List Bt} : RdAt (st.upd c (rdC bs p)) c bs p := zy7.upd_same _ _ _
theorem RdAt.ne {st : zy7} {c p : Nat} {bs : List Bt} {b : Nat} (h : RdAt st c bs p) (hb : st b = none) : b ≠ c := by rintro rfl; rw [RdAt, hb] at h; cases h
abbrev tf_D2_75 := zi tI_3 (zi zI_3 (zi underlying3 (zi tI_4 (zi zI_4 (zi underlying4 (zi tI_9 (zi zI_9 (zi underlying9 (zi tI_31 (zi zI_31 (zi eI_31 (zi eB_31 (zi eZ_31 (zi underlying31 (zi tI_42 (zi zI_42 (zi fI_42_0 (zi fI_42_1 (zi fI_42_2 (zi fI_42_3 (zi bI_42 (zi tI_58 (zi zI_58 (zi eI_58 (zi eB_58 (zi eZ_58 (zi underlying58 (zi tI_99 (zi zI_99 (zi tI_142 (zi zI_142 (zi eI_142 (zi eB_142 (zi eZ_142 underlying142))))))))))))))))))))))))))))))))))
theorem c_l1Draw (bs : List Bt) (c : Nat) : ∀ (d p : Nat) (st : zy7), d ≤ 10 → p + 4 ^ (d + 2) ≤ 1099511627776 → RdAt st c bs p → zq7 prog 75 [.ptr c 0, .int .i64 (d : Int)] st (Dr bs c p (4 ^ (d + 2)) st DrT)
 | d, p, st, hd, hp, hR => by
  have IH := fun (d' : Nat) (hlt : d' < d) p st => c_l1Draw bs c d' p st
  refine zq7.dropS (zq7.fin ?_)
  refine wF [1000000, 5] 2 func75 ntmps75 rfl rfl ?_
  intro _
  simp -implicitDefEqProofs only [zy4, evF, ↓evZ, implies_true, seval, tf_D2_75]
  intro b4 h4
  have h4c := hR.ne h4
  have hR' := fun o => hR.upd (o := o) h4c
  have hpow : 64 ≤ 4 ^ (d + 2) ∨ d = 0 := by
   cases d with
   | zero => exact .inr rfl
   | succ d => left; have : 4 ^ (d + 1 + 2) = 64 * 4 ^ d := by rw [show d + 1 + 2 = d + 3 by omega, Nat.pow_add]; omega
               have := Nat.one_le_two_pow (n := d); have : 1 ≤ 4 ^ d := Nat.one_le_pow _ _ (by omega); omega
  have hpow16 : 16 ≤ 4 ^ (d + 2) := by rcases hpow with h | rfl <;> omega
  have hend : ∀ (o o' : AO) (q : Nat) (t : Tm), p ≤ q → q ≤ p + 4 ^ (d + 2) → Dn t → ∃ b l s0, ((st.upd b4 o).upd c (rdC bs q)).upd b4 o' = accS s0 b l ∧ (l ≠ [] → s0 b = none) ∧ (∀ e ∈ l, e.isJunk = false) ∧ Even l ∧ ∃ s2, Drops s0 s2 ∧ Dr bs c p (4 ^ (d + 2)) st DrT (AV.fin b l t.av) s2 := fun o o' q t h1 h2 h3 => by
   refine ⟨0, [], _, rfl, by simp, by simp, ⟨4, by simp⟩, st.upd c (rdC bs q), ?_, q, h1, h2, rfl, t, h3, Tm.fin0 t 0⟩
   intro x
   by_cases e4 : x = b4 <;> by_cases ec : x = c <;> simp_all [zy7.upd]
  refine zx4 (fun h => ?_) (fun h => ?_)
  case refine_2 =>
   simp -implicitDefEqProofs only [h, zy4, evF, ↓evZ, implies_true, seval, tf_D2_75]
   have hRq := hR' (.cells [.int .i64 0, .int .i64 0, .str ⟨#[]⟩, .fslice []])
   have hq : p + 1 ≤ 1099511627776 := by omega
   have := h4c.symm
   refine (c_pick bs c (p) (by omega) 4 (by omega) (by omega) _ hRq).mono ?_
   rintro _ _ ⟨k, hk, rfl, rfl⟩
   try rw [zy7.upd_upd]
   simp -implicitDefEqProofs only [zy4, h4c, h4c.symm, evF, ↓evZ, implies_true, seval, tf_D2_75]
   refine zq4 (fun h1 => ?_) (fun h1 => ?_)
   · simp -implicitDefEqProofs only [zy4, h4c, h4c.symm, evF, ↓evZ, implies_true, seval, tf_D2_75]
     refine (c_pick bs c (p + 1) (by omega) 4 (by omega) (by omega) _ RdAt.new).mono ?_
     rintro _ _ ⟨k2, hk2, rfl, rfl⟩
     rw [zy7.upd_upd]
     simp -implicitDefEqProofs only [zy4, h4c, h4c.symm, evF, ↓evZ, implies_true, seval, tf_D2_75]
     refine (c_l1Var (k2 : Int) _).to ?_
     simp -implicitDefEqProofs only [Tm.av_cells, Tm.av_store, Tm.av_agg, take_all (Tm.av_cells _), agg_cells (Tm.av_agg _), zy4, h4c, h4c.symm, evF, ↓evZ, implies_true, seval, tf_D2_75]
     exact hend _ _ _ (vr k2) (by omega) (by omega) (dn_vr _)
   simp -implicitDefEqProofs only [zy4, h4c, h4c.symm, evF, ↓evZ, implies_true, seval, tf_D2_75]
   refine zq4 (fun h2 => ?_) (fun h2 => ?_)
   · simp -implicitDefEqProofs only [zy4, h4c, h4c.symm, evF, ↓evZ, implies_true, seval, tf_D2_75]
     refine (c_numF [0, 1, 7, -3, 999, -999] (by simp) (by simp) bs c (p + 1) (by omega) _ RdAt.new).mono ?_
     rintro _ _ ⟨x, hx, rfl, rfl⟩
     rw [zy7.upd_upd]
     simp -implicitDefEqProofs only [zy4, h4c, h4c.symm, evF, ↓evZ, implies_true, seval, tf_D2_75]
     refine (c_l1Int x _).to ?_
     simp -implicitDefEqProofs only [Tm.av_cells, Tm.av_store, Tm.av_agg, take_all (Tm.av_cells _), agg_cells (Tm.av_agg _), zy4, h4c, h4c.symm, evF, ↓evZ, implies_true, seval, tf_D2_75]
     exact hend _ _ _ (.mk 2 x ⟨#[]⟩ []) (by omega) (by omega) (dn_mk (by omega) (by simp) (by simp))
   · simp -implicitDefEqProofs only [zy4, h4c, h4c.symm, evF, ↓evZ, implies_true, seval, tf_D2_75]
     refine (c_ofF [⟨#[97]⟩, ⟨#[98]⟩, ⟨#[110, 105, 108]⟩, ⟨#[91, 93]⟩, ⟨#[102, 111, 111]⟩, ⟨#[43]⟩] (by simp) (by simp) bs c (p + 1) (by omega) _ RdAt.new).mono ?_
     rintro _ _ ⟨x, hx, rfl, rfl⟩
     rw [zy7.upd_upd]
     simp -implicitDefEqProofs only [zy4, h4c, h4c.symm, evF, ↓evZ, implies_true, seval, tf_D2_75]
     refine (c_l1StructF x [] (by simp) _).to ?_
     simp -implicitDefEqProofs only [Tm.av_cells, Tm.av_store, Tm.av_agg, take_all (Tm.av_cells _), agg_cells (Tm.av_agg _), zy4, h4c, h4c.symm, evF, ↓evZ, implies_true, seval, tf_D2_75]
     exact hend _ _ _ (.mk 3 0 x []) (by omega) (by omega) (dn_mk (by omega) (by simp) (by simp))
  simp -implicitDefEqProofs only [h, zy4, h4c, h4c.symm, evF, ↓evZ, implies_true, seval, tf_D2_75]
  have hd2 : 2 ≤ d := by simp at h; omega
  have hwx : ∀ z : Int, z = (d : Int) → IntKind.i64.wrap (z - 1) = z - 1 := fun z hz => wrap64 (by omega) (by omega)
  obtain ⟨d', rfl⟩ : ∃ d', d = d' + 1 := ⟨d - 1, by omega⟩
  have hpd : 4 ^ (d' + 1 + 2) = 4 * 4 ^ (d' + 2) := by rw [show d' + 1 + 2 = d' + 2 + 1 by omega, Nat.pow_succ]; omega
  have hp4 : 4 ≤ 4 ^ (d' + 2) := by have : 1 ≤ 4 ^ d' := Nat.one_le_pow _ _ (by omega); rw [Nat.pow_add]; omega
  have hwd : IntKind.i64.wrap (((d' + 1 : Nat) : Int) - 1) = (d' : Int) := by rw [wrap64 (by omega) (by omega)]; omega
  have hwd' : IntKind.i64.wrap ((d' : Int) + 1 - 1) = (d' : Int) := by rw [wrap64 (by omega) (by omega)]; omega
  have IHd := fun p st => IH d' (Nat.lt_succ_self _) p st
  generalize hM : 4 ^ (d' + 2) = M at *
  rw [hpd] at hp hpow16
  refine (c_pick bs c p (by omega) 4 (by omega) (by omega) _ (hR' _)).mono ?_
  rintro _ _ ⟨k, hk, rfl, rfl⟩
  simp -implicitDefEqProofs only [zy4, h4c, h4c.symm, hwd', hwd, evF, ↓evZ, implies_true, seval, tf_D2_75]
  refine zq4 (fun h1 => ?_) (fun h1 => ?_)
  · have hRq : RdAt ((st.upd b4 (.cells [.int .i64 0, .int .i64 0, .str ⟨#[]⟩, .fslice []])).upd c (rdC bs (p + 1))) c bs (p + 1) := RdAt.new
    simp -implicitDefEqProofs only [zy4, h4c, h4c.symm, hwd', hwd, evF, ↓evZ, implies_true, seval, tf_D2_75]
    refine (c_pick bs c (p + 1) (by omega) 4 (by omega) (by omega) _ hRq).mono ?_
    rintro _ _ ⟨k, hk, rfl, rfl⟩
    try rw [zy7.upd_upd]
    simp -implicitDefEqProofs only [zy4, h4c, h4c.symm, hwd', hwd, evF, ↓evZ, implies_true, seval, tf_D2_75]
    refine zq4 (fun h1 => ?_) (fun h1 => ?_)
    · simp -implicitDefEqProofs only [zy4, h4c, h4c.symm, hwd', hwd, evF, ↓evZ, implies_true, seval, tf_D2_75]
      refine (c_pick bs c (p + 1 + 1) (by omega) 4 (by omega) (by omega) _ RdAt.new).mono ?_
      rintro _ _ ⟨k2, hk2, rfl, rfl⟩
      rw [zy7.upd_upd]
      simp -implicitDefEqProofs only [zy4, h4c, h4c.symm, hwd', hwd, evF, ↓evZ, implies_true, seval, tf_D2_75]
      refine (c_l1Var (k2 : Int) _).to ?_
      simp -implicitDefEqProofs only [Tm.av_cells, Tm.av_store, Tm.av_agg, take_all (Tm.av_cells _), agg_cells (Tm.av_agg _), zy4, h4c, h4c.symm, hwd', hwd, evF, ↓evZ, implies_true, seval, tf_D2_75]
      exact hend _ _ _ (vr k2) (by omega) (by omega) (dn_vr _)
    simp -implicitDefEqProofs only [zy4, h4c, h4c.symm, hwd', hwd, evF, ↓evZ, implies_true, seval, tf_D2_75]
    refine zq4 (fun h2 => ?_) (fun h2 => ?_)
    · simp -implicitDefEqProofs only [zy4, h4c, h4c.symm, hwd', hwd, evF, ↓evZ, implies_true, seval, tf_D2_75]
      refine (c_numF [0, 1, 7, -3, 999, -999] (by simp) (by simp) bs c (p + 1 + 1) (by omega) _ RdAt.new).mono ?_
      rintro _ _ ⟨x, hx, rfl, rfl⟩
      rw [zy7.upd_upd]
      simp -implicitDefEqProofs only [zy4, h4c, h4c.symm, hwd', hwd, evF, ↓evZ, implies_true, seval, tf_D2_75]
      refine (c_l1Int x _).to ?_
      simp -implicitDefEqProofs only [Tm.av_cells, Tm.av_store, Tm.av_agg, take_all (Tm.av_cells _), agg_cells (Tm.av_agg _), zy4, h4c, h4c.symm, hwd', hwd, evF, ↓evZ, implies_true, seval, tf_D2_75]
      exact hend _ _ _ (.mk 2 x ⟨#[]⟩ []) (by omega) (by omega) (dn_mk (by omega) (by simp) (by simp))
    · simp -implicitDefEqProofs only [zy4, h4c, h4c.symm, hwd', hwd, evF, ↓evZ, implies_true, seval, tf_D2_75]
      refine (c_ofF [⟨#[97]⟩, ⟨#[98]⟩, ⟨#[110, 105, 108]⟩, ⟨#[91, 93]⟩, ⟨#[102, 111, 111]⟩, ⟨#[43]⟩] (by simp) (by simp) bs c (p + 1 + 1) (by omega) _ RdAt.new).mono ?_
      rintro _ _ ⟨x, hx, rfl, rfl⟩
      rw [zy7.upd_upd]
      simp -implicitDefEqProofs only [zy4, h4c, h4c.symm, hwd', hwd, evF, ↓evZ, implies_true, seval, tf_D2_75]
      refine (c_l1StructF x [] (by simp) _).to ?_
      simp -implicitDefEqProofs only [Tm.av_cells, Tm.av_store, Tm.av_agg, take_all (Tm.av_cells _), agg_cells (Tm.av_agg _), zy4, h4c, h4c.symm, hwd', hwd, evF, ↓evZ, implies_true, seval, tf_D2_75]
      exact hend _ _ _ (.mk 3 0 x []) (by omega) (by omega) (dn_mk (by omega) (by simp) (by simp))
  · simp -implicitDefEqProofs only [zy4, h4c, h4c.symm, hwd', hwd, evF, ↓evZ, implies_true, seval, tf_D2_75]
    refine (c_pick bs c (p + 1) (by omega) 3 (by omega) (by omega) _ RdAt.new).mono ?_
    rintro _ _ ⟨k2, hk2, rfl, rfl⟩
    rw [zy7.upd_upd]
    simp -implicitDefEqProofs only [zy4, h4c, h4c.symm, hwd', hwd, evF, ↓evZ, implies_true, seval, tf_D2_75]
    refine zq4 (fun h2 => ?_) (fun h2 => ?_)
    · simp -implicitDefEqProofs only [zy4, h4c, h4c.symm, hwd', hwd, evF, ↓evZ, implies_true, seval, tf_D2_75]
      refine (IHd (p + 1 + 1) _ (by omega) (by omega) RdAt.new).mono ?_
      rintro _ _ ⟨p1, hp1, hp1', rfl, t1, ht1, rfl⟩
      rw [zy7.upd_upd]
      simp -implicitDefEqProofs only [zy4, h4c, h4c.symm, hwd', hwd, evF, ↓evZ, implies_true, seval, tf_D2_75]
      refine (IHd p1 _ (by omega) (by omega) RdAt.new).mono ?_
      rintro _ _ ⟨p2, hp2, hp2', rfl, t2, ht2, rfl⟩
      rw [zy7.upd_upd]
      simp -implicitDefEqProofs only [zy4, h4c, h4c.symm, hwd', hwd, evF, ↓evZ, implies_true, seval, tf_D2_75]
      refine (c_l1StructF ⟨#[46]⟩ [t1, t2] (by simp) _).to ?_
      simp -implicitDefEqProofs only [Tm.av_cells, Tm.av_store, Tm.av_agg, take_all (Tm.av_cells _), agg_cells (Tm.av_agg _), zy4, h4c, h4c.symm, hwd', hwd, evF, ↓evZ, implies_true, seval, tf_D2_75]
      exact hend _ _ _ (.mk 3 0 ⟨#[46]⟩ [t1, t2]) (by omega) (by omega) (dn_mk (by omega) (by simp) (by intro x hx; simp only [List.mem_cons, List.not_mem_nil, or_false] at hx; rcases hx with rfl | rfl <;> assumption))
    · simp -implicitDefEqProofs only [zy4, h4c, h4c.symm, hwd', hwd, evF, ↓evZ, implies_true, seval, tf_D2_75]
      refine (c_ofF [⟨#[102]⟩, ⟨#[103]⟩, ⟨#[115]⟩, ⟨#[43]⟩, ⟨#[61]⟩, ⟨#[105, 115]⟩, ⟨#[102, 111, 111]⟩] (by simp) (by simp) bs c (p + 1 + 1) (by omega) _ RdAt.new).mono ?_
      rintro _ _ ⟨x, _, rfl, rfl⟩
      rw [zy7.upd_upd]
      simp -implicitDefEqProofs only [zy4, h4c, h4c.symm, hwd', hwd, evF, ↓evZ, implies_true, seval, tf_D2_75]
      refine (c_l1Struct0 x _).to ?_
      simp -implicitDefEqProofs only [zy4, h4c, h4c.symm, hwd', hwd, evF, ↓evZ, implies_true, seval, tf_D2_75]
      intro b5 h5
      have h54 : b5 ≠ b4 := by rintro rfl; simp [zy7.upd, h4c] at h5
      have h5c : b5 ≠ c := by rintro rfl; simp [zy7.upd] at h5
      have hn5 : st b5 = none := by rw [zy7.upd_ne _ _ h5c, zy7.upd_ne _ _ h54] at h5; exact h5
      refine (c_numF [2, 1, 3, 2] (by simp) (by simp) bs c (p + 1 + 1 + 1) (by omega) _ (RdAt.new.upd h5c)).mono ?_
      rintro _ _ ⟨y, hy, rfl, rfl⟩
      obtain ⟨n, rfl, hn⟩ : ∃ n : Nat, y = n ∧ n ≤ 3 := by
       simp only [List.mem_cons, List.not_mem_nil, or_false] at hy
       rcases hy with rfl | rfl | rfl | rfl
       · exact ⟨2, rfl, by omega⟩
       · exact ⟨1, rfl, by omega⟩
       · exact ⟨3, rfl, by omega⟩
       · exact ⟨2, rfl, by omega⟩
      rw [zy7.upd_mid h5c, zy7.upd_comm _ _ _ h5c]
      have hW4 : ∀ q, ((st.upd b4 (.cells [.int .i64 0, .int .i64 0, .str ⟨#[]⟩, .fslice []])).upd c (rdC bs q)) b4 = some (.cells [.int .i64 0, .int .i64 0, .str ⟨#[]⟩, .fslice []]) := fun q => by rw [zy7.upd_ne _ _ h4c, zy7.upd_same]
      simp -implicitDefEqProofs only [zy4, h4c, h4c.symm, hwd', hwd, h54, h54.symm, h5c, h5c.symm, evF, ↓evZ, implies_true, seval, tf_D2_75]
      refine zw5 (σ := Nat × Nat × List Tm × Nat) [1000000, 5] [0, 1, 4, 5]
       (fun s => (s.2.2.1.map Tm.av ≠ [] → (zy7.upd ((st.upd b4 (.cells [.int .i64 0, .int .i64 0, .str ⟨#[]⟩, .fslice []])).upd c (rdC bs s.2.2.2)) b5 (.cells ([.int .i64 3, .int .i64 0, .str x] ++ [accV 4 s.2.1 (s.2.2.1.map Tm.av)]))) s.2.1 = none) ∧ s.2.2.1.length + s.1 ≤ 3 ∧ (∀ t ∈ s.2.2.1, Dn t) ∧ p ≤ s.2.2.2 ∧ s.2.2.2 + s.1 * M ≤ p + 4 * M)
       (fun s => [(6, .int .i64 s.1)]) (fun s => kidS ((st.upd b4 (.cells [.int .i64 0, .int .i64 0, .str ⟨#[]⟩, .fslice []])).upd c (rdC bs s.2.2.2)) b5 s.2.1 [.int .i64 3, .int .i64 0, .str x] (s.2.2.1.map Tm.av)) (fun s => s.1) (by decide +kernel)
       ⟨(n, 0, [], p + 1 + 1 + 1 + 1), ⟨fun h => absurd rfl h, by simpa using hn, by simp, by simp only; omega, ?_⟩, zx7.mk (by simp -implicitDefEqProofs only [zy4, h4c, h4c.symm, hwd', hwd, h54, h54.symm, h5c, h5c.symm, evF, ↓evZ, implies_true, seval, tf_D2_75])⟩ ?_
      · simp only
        have := Nat.mul_le_mul_right M hn
        omega
      rintro ⟨i, b, acc, q⟩ ⟨i1, i2, i3, i4, i5⟩
      simp only at i1 i2 i3 i4 i5
      simp -implicitDefEqProofs only [zy4, h4c, h4c.symm, hwd', hwd, h54, h54.symm, h5c, h5c.symm, evF, ↓evZ, implies_true, seval, tf_D2_75]
      refine zq4 (fun h3 => ?_) (fun h3 => ?_)
      · simp only [decide_eq_true_eq] at h3
        have hbo := kidS_c i1
        have hSc : ((st.upd b4 (.cells [.int .i64 0, .int .i64 0, .str ⟨#[]⟩, .fslice []])).upd c (rdC bs q)) c ≠ none := by rw [zy7.upd_same]; simp
        have hRk : RdAt (kidS ((st.upd b4 (.cells [.int .i64 0, .int .i64 0, .str ⟨#[]⟩, .fslice []])).upd c (rdC bs q)) b5 b [.int .i64 3, .int .i64 0, .str x] (acc.map Tm.av)) c bs q := by
         unfold RdAt
         rw [kidS_ne i1 hSc h5c.symm, zy7.upd_same]
         rfl
        have hM1 : M ≤ i * M := by have := Nat.mul_le_mul_right M (show 1 ≤ i by omega); omega
        have hMi : (i - 1) * M + M = i * M := by rw [← Nat.succ_mul]; congr 1; omega
        have hwi : IntKind.i64.wrap ((i : Int) - 1) = ((i - 1 : Nat) : Int) := by rw [wrap64 (by omega) (by omega)]; omega
        have hlen' : (acc.map Tm.av).length ≤ 3 := by rw [List.length_map]; omega
        simp -implicitDefEqProofs only [zy4, hwd', hwd, accV_agg, accV_width, accV_junk, accV_store, accV_cells, evF, ↓evZ, implies_true, seval, tf_D2_75]
        refine zq5 [(0, 1), (1, 1), (2, 1), (3, 1), (4, 1), (5, 0), (6, 1), (7, 0), (8, 1), (9, 2)] [0, 1, 2, 3, 4, 6, 8] (none0'.upd b5 (.cells [.int .i64 3, .int .i64 0, .str x, accV 4 b (acc.map Tm.av)])) mixed (by decide +kernel) (by decide +kernel) (by decide +kernel) rfl (ext_one hbo) ?_
        simp -implicitDefEqProofs only [zy4, hwd', hwd, accV_agg, accV_width, accV_junk, accV_store, accV_cells, evF, ↓evZ, implies_true, seval, tf_D2_75]
        refine (IHd q _ (by omega) (by omega) hRk).mono ?_
        rintro _ _ ⟨q', hq1, hq2, rfl, t, ht, rfl⟩
        obtain ⟨e1, i1'⟩ := kidS_beside (o := rdC bs q') i1 hSc h5c.symm
        rw [zy7.upd_upd] at e1 i1'
        rw [e1]
        simp -implicitDefEqProofs only [Tm.av_agg, Tm.av_width, Tm.av_store, Tm.av_junk, zy4, hwd', hwd, accV_agg, accV_width, accV_junk, accV_store, accV_cells, evF, ↓evZ, implies_true, seval, tf_D2_75]
        refine ⟨ext_one (kidS_c i1'), ?_⟩
        refine acc_append eI_31 eB_31 eZ_31 rfl rfl (by intro e he; simp only [List.mem_cons, List.not_mem_nil, or_false] at he; subst he; exact ⟨Tm.av_width _, Tm.av_store _⟩) (tm_widths _) i1' (by simp only [List.length_cons, List.length_nil]; omega) (by simp only [List.length_cons, List.length_nil]; omega) (fun b' hb' => ?_)
        rw [show acc.map Tm.av ++ [t.av] = (acc ++ [t]).map Tm.av by simp] at hb' ⊢
        obtain ⟨g1, g2, g3⟩ := kidS_set hb'
        simp only [List.cons_append, List.nil_append] at g1 g3
        simp -implicitDefEqProofs only [zy4, hwd', hwd, accV_agg, accV_width, accV_junk, accV_store, accV_cells, evF, ↓evZ, implies_true, seval, tf_D2_75]
        refine ⟨ext_one g3, ?_⟩
        simp -implicitDefEqProofs only [g3, Nat.le_refl, g1, hwi, zy4, hwd', hwd, accV_agg, accV_width, accV_junk, accV_store, accV_cells, evF, ↓evZ, implies_true, seval, tf_D2_75]
        refine ⟨(i - 1, b', acc ++ [t], q'), by simp only; omega, ⟨g2, by simp only [List.length_append, List.length_cons, List.length_nil]; omega, fun u hu => ?_, by simp only; omega, by simp only; omega⟩, zx7.mk (by simp -implicitDefEqProofs only [zy4, hwd', hwd, accV_agg, accV_width, accV_junk, accV_store, accV_cells, evF, ↓evZ, implies_true, seval, tf_D2_75])⟩
        rcases List.mem_append.1 hu with hu | hu
        · exact i3 u hu
        · simp only [List.mem_cons, List.not_mem_nil, or_false] at hu
          subst hu
          exact ht
      · have hbo := kidS_c i1
        have h4o := kidS_ne i1 (x := b4) (by rw [hW4]; simp) h54.symm
        rw [hW4] at h4o
        simp -implicitDefEqProofs only [zy4, hbo, h4o, accV_store, evF, ↓evZ, implies_true, seval, tf_D2_75]
        obtain ⟨g5, g6⟩ := kidS_upd (o := .cells [.int .i64 3, .int .i64 0, .str x, accV 4 b (acc.map Tm.av)]) i1 (show ((st.upd b4 (.cells [.int .i64 0, .int .i64 0, .str ⟨#[]⟩, .fslice []])).upd c (rdC bs q)) b4 ≠ none by rw [hW4]; simp) h54.symm
        refine ⟨b, _, _, g5, g6, tm_junk _, ⟨4, tm_widths _⟩, st.upd c (rdC bs q), ?_, q, i4, by omega, rfl, .mk 3 0 x acc, dn_mk (by omega) (by omega) i3, ?_⟩
        · intro y
          by_cases e4 : y = b4 <;> by_cases ec : y = c <;> by_cases e5 : y = b5 <;> simp_all [zy7.upd]
        · simp only [fin_agg, List.map_cons, List.map_nil, fin_int, fin_str, accV_fin, Tm.av_mk]
termination_by d => d
decreasing_by exact hlt
abbrev tf_B6_176 := zi tI_3 (zi zI_3 (zi underlying3 (zi tI_4 (zi zI_4 underlying4))))
theorem c_l5Code (b : Bool) (st : zy7) : zq7 prog 176 [.bool b] st (fun r st' => r = .int .i64 (codeB b) ∧ st' = st) := by
 refine wF [1000000] 1 func176 ntmps176 rfl rfl ?_
 intro _
 simp -implicitDefEqProofs only [evF, ↓evZ, implies_true, seval, tf_B6_176]
 cases b
 · simp -implicitDefEqProofs only [codeB, evF, ↓evZ, implies_true, seval, tf_B6_176]
 · simp -implicitDefEqProofs only [codeB, evF, ↓evZ, implies_true, seval, tf_B6_176]
abbrev tf_B6_181 := zi tI_4 (zi zI_4 (zi underlying4 (zi tI_9 (zi zI_9 underlying9))))
theorem c_l5Compares (s : ByteArray) (st : zy7) : zq7 prog 181 [.str s] st (fun r st' => r = .bool (inN cmpNames s) ∧ st' = st) := by
 have hin : inN cmpNames s = (decide (s = ⟨#[60]⟩) || (decide (s = ⟨#[62]⟩) || (decide (s = ⟨#[61, 60]⟩) || (decide (s = ⟨#[62, 61]⟩) || decide (s = ⟨#[61, 58, 61]⟩))))) := by
  simp only [inN, cmpNames, List.any_cons, List.any_nil, Bool.or_false]
 rw [hin]
 refine wF [1000000] 1 func181 ntmps181 rfl rfl ?_
 intro _
 simp -implicitDefEqProofs only [evF, ↓evZ, implies_true, seval, tf_B6_181]
 refine zx4 (fun h1 => ?_) (fun h1 => ?_)
 case refine_2 =>
  simp -implicitDefEqProofs only [h1, evF, ↓evZ, implies_true, seval, tf_B6_181]
  simp at h1; simp [h1]
 simp -implicitDefEqProofs only [h1, evF, ↓evZ, implies_true, seval, tf_B6_181]
 refine zx4 (fun h2 => ?_) (fun h2 => ?_)
 case refine_2 =>
  simp -implicitDefEqProofs only [h2, evF, ↓evZ, implies_true, seval, tf_B6_181]
  simp at h2; simp [h2]
 simp -implicitDefEqProofs only [h2, evF, ↓evZ, implies_true, seval, tf_B6_181]
 refine zx4 (fun h3 => ?_) (fun h3 => ?_)
 case refine_2 =>
  simp -implicitDefEqProofs only [h3, evF, ↓evZ, implies_true, seval, tf_B6_181]
  simp at h3; simp [h3]
 simp -implicitDefEqProofs only [h3, evF, ↓evZ, implies_true, seval, tf_B6_181]
 refine zx4 (fun h4 => ?_) (fun h4 => ?_)
 case refine_2 =>
  simp -implicitDefEqProofs only [h4, evF, ↓evZ, implies_true, seval, tf_B6_181]
  simp at h4; simp [h4]
 simp -implicitDefEqProofs only [h4, evF, ↓evZ, implies_true, seval, tf_B6_181]
abbrev tf_B6_202 := zi tI_3 (zi zI_3 (zi underlying3 (zi tI_4 (zi zI_4 (zi underlying4 (zi tI_9 (zi zI_9 underlying9)))))))
theorem c_l5Holds (s : ByteArray) (a b : Int) (st : zy7) : zq7 prog 202 [.str s, .int .i64 a, .int .i64 b] st (fun r st' => r = .bool (cmpH s a b) ∧ st' = st) := by
 unfold cmpH
 refine wF [1000000] 3 func202 ntmps202 rfl rfl ?_
 intro _
 simp -implicitDefEqProofs only [evF, ↓evZ, implies_true, seval, tf_B6_202]
 refine zq4 (fun h6 => ?_) (fun h6 => ?_)
 · simp -implicitDefEqProofs only [evF, ↓evZ, implies_true, seval, tf_B6_202]
   rw [if_pos (by simpa using h6)]
 rw [if_neg (by simpa using h6)]
 simp -implicitDefEqProofs only [evF, ↓evZ, implies_true, seval, tf_B6_202]
 refine zq4 (fun h7 => ?_) (fun h7 => ?_)
 · simp -implicitDefEqProofs only [evF, ↓evZ, implies_true, seval, tf_B6_202]
   rw [if_pos (by simpa using h7)]
 rw [if_neg (by simpa using h7)]
 simp -implicitDefEqProofs only [evF, ↓evZ, implies_true, seval, tf_B6_202]
 refine zq4 (fun h8 => ?_) (fun h8 => ?_)
 · simp -implicitDefEqProofs only [evF, ↓evZ, implies_true, seval, tf_B6_202]
   rw [if_pos (by simpa using h8)]
 rw [if_neg (by simpa using h8)]
 simp -implicitDefEqProofs only [evF, ↓evZ, implies_true, seval, tf_B6_202]
 refine zq4 (fun h9 => ?_) (fun h9 => ?_)
 · simp -implicitDefEqProofs only [evF, ↓evZ, implies_true, seval, tf_B6_202]
   rw [if_pos (by simpa using h9)]
 rw [if_neg (by simpa using h9)]
 simp -implicitDefEqProofs only [evF, ↓evZ, implies_true, seval, tf_B6_202]
abbrev tf_B6_182 := zi tI_3 (zi zI_3 (zi underlying3 (zi tI_4 (zi zI_4 (zi underlying4 (zi tI_9 (zi zI_9 (zi underlying9 (zi tI_31 (zi zI_31 (zi eI_31 (zi eB_31 (zi eZ_31 (zi underlying31 (zi tI_42 (zi zI_42 (zi fI_42_0 (zi fI_42_1 (zi fI_42_2 (zi fI_42_3 bI_42))))))))))))))))))))
theorem c_l5Compare (n : Int) (s : ByteArray) (x y : Tm) {N : Int} (hx : OkV N x) (hy : OkV N y) (st : zy7) : zq7 prog 182 [(Tm.mk 3 n s [x, y]).av] st (fun r st' => r = .int .i64 (cmpC s x y) ∧ st' = st) := by
 have hat0 : aIndexAddr prog 31 (.slice [x.av, y.av]) (.int .i64 0) = some (.pptr x.av) := ev_at (av := Tm.av) (l := [x, y]) (i := 0) eI_31 rfl (Tm.av_width x)
 have hat1 : aIndexAddr prog 31 (.slice [x.av, y.av]) (.int .i64 1) = some (.pptr y.av) := ev_at (av := Tm.av) (l := [x, y]) (i := 1) eI_31 rfl (Tm.av_width y)
 have hax := fun st => c_l5Arith x st hx
 have hay := fun st => c_l5Arith y st hy
 unfold cmpC both
 simp only [Tm.av_mk, List.map_cons, List.map_nil]
 refine wF [1000000] 1 func182 ntmps182 rfl rfl ?_
 intro _
 simp -implicitDefEqProofs only [hat0, hat1, Tm.av_agg, Tm.av_width, evF, ↓evZ, implies_true, seval, tf_B6_182]
 refine (hax _).to ?_
 generalize x.ev.1 = a at *
 generalize x.ev.2 = ca at *
 generalize y.ev.1 = b at *
 generalize y.ev.2 = cb at *
 simp -implicitDefEqProofs only [hat0, hat1, Tm.av_agg, Tm.av_width, evF, ↓evZ, implies_true, seval, tf_B6_182]
 refine zq4 (fun h4 => ?_) (fun h4 => ?_)
 · simp -implicitDefEqProofs only [hat0, hat1, Tm.av_agg, Tm.av_width, evF, ↓evZ, implies_true, seval, tf_B6_182]
   have h4' : ca ≠ 0 := by simpa using h4
   rw [if_pos h4']
 have h4' : ca = 0 := by simpa using h4
 subst h4'
 rw [if_neg (by simp)]
 simp -implicitDefEqProofs only [hat0, hat1, Tm.av_agg, Tm.av_width, evF, ↓evZ, implies_true, seval, tf_B6_182]
 refine (hay _).to ?_
 simp -implicitDefEqProofs only [hat0, hat1, Tm.av_agg, Tm.av_width, evF, ↓evZ, implies_true, seval, tf_B6_182]
 refine zq4 (fun h5 => ?_) (fun h5 => ?_)
 · simp -implicitDefEqProofs only [hat0, hat1, Tm.av_agg, Tm.av_width, evF, ↓evZ, implies_true, seval, tf_B6_182]
   have h5' : cb ≠ 0 := by simpa using h5
   rw [if_pos h5']
 have h5' : cb = 0 := by simpa using h5
 subst h5'
 rw [if_neg (by simp)]
 simp -implicitDefEqProofs only [hat0, hat1, Tm.av_agg, Tm.av_width, evF, ↓evZ, implies_true, seval, tf_B6_182]
 refine (c_l5Holds s a b _).to ?_
 simp -implicitDefEqProofs only [hat0, hat1, Tm.av_agg, Tm.av_width, evF, ↓evZ, implies_true, seval, tf_B6_182]
 refine (c_l5Code _ _).to ?_
 simp -implicitDefEqProofs only [hat0, hat1, Tm.av_agg, Tm.av_width, evF, ↓evZ, implies_true, seval, tf_B6_182]
abbrev tf_B6_183 := zi tI_3 (zi zI_3 (zi underlying3 (zi tI_4 (zi zI_4 (zi underlying4 (zi tI_9 (zi zI_9 (zi underlying9 (zi tI_31 (zi zI_31 (zi eI_31 (zi eB_31 (zi eZ_31 (zi underlying31 (zi tI_42 (zi zI_42 (zi fI_42_0 (zi fI_42_1 (zi fI_42_2 (zi fI_42_3 bI_42))))))))))))))))))))
theorem c_l5Test (n : Int) (s : ByteArray) (x : Tm) (hs : s = ⟨#[118, 97, 114]⟩ ∨ s = ⟨#[110, 111, 110, 118, 97, 114]⟩ ∨ s = ⟨#[97, 116, 111, 109]⟩ ∨ s = ⟨#[105, 110, 116]⟩) (st : zy7) :
 zq7 prog 183 [(Tm.mk 3 n s [x]).av] st (fun r st' => r = .int .i64 (codeB (testB s x)) ∧ st' = st) := by
 obtain ⟨xk, xn, xs, xt⟩ := x
 have hat0 : aIndexAddr prog 31 (.slice [(Tm.mk xk xn xs xt).av]) (.int .i64 0) = some (.pptr (Tm.mk xk xn xs xt).av) := ev_at (av := Tm.av) (l := [Tm.mk xk xn xs xt]) (i := 0) eI_31 rfl (Tm.av_width _)
 simp only [Tm.av_mk] at hat0
 simp only [List.map_cons, List.map_nil, Tm.av_mk]
 refine wF [1000000] 1 func183 ntmps183 rfl rfl ?_
 intro _
 simp -implicitDefEqProofs only [hat0, evF, ↓evZ, implies_true, seval, tf_B6_183]
 refine zq4 (fun h => ?_) (fun h => ?_)
 · have hs' : s = ⟨#[118, 97, 114]⟩ := by simpa using h
   subst hs'
   simp -implicitDefEqProofs only [hat0, evF, ↓evZ, implies_true, seval, tf_B6_183]
   refine (c_l5Code _ _).to ?_
   simp -implicitDefEqProofs only [hat0, evF, ↓evZ, implies_true, seval, tf_B6_183]
   rfl
 have h1 : s ≠ ⟨#[118, 97, 114]⟩ := by simpa using h
 simp -implicitDefEqProofs only [hat0, evF, ↓evZ, implies_true, seval, tf_B6_183]
 refine zq4 (fun h => ?_) (fun h => ?_)
 · have hs' : s = ⟨#[110, 111, 110, 118, 97, 114]⟩ := by simpa using h
   subst hs'
   simp -implicitDefEqProofs only [hat0, evF, ↓evZ, implies_true, seval, tf_B6_183]
   refine (c_l5Code _ _).to ?_
   simp -implicitDefEqProofs only [hat0, evF, ↓evZ, implies_true, seval, tf_B6_183]
   rfl
 have h2 : s ≠ ⟨#[110, 111, 110, 118, 97, 114]⟩ := by simpa using h
 simp -implicitDefEqProofs only [hat0, evF, ↓evZ, implies_true, seval, tf_B6_183]
 refine zq4 (fun h => ?_) (fun h => ?_)
 · have hs' : s = ⟨#[105, 110, 116]⟩ := by simpa using h
   subst hs'
   simp -implicitDefEqProofs only [hat0, evF, ↓evZ, implies_true, seval, tf_B6_183]
   refine (c_l5Code _ _).to ?_
   simp -implicitDefEqProofs only [hat0, evF, ↓evZ, implies_true, seval, tf_B6_183]
   rfl
 have h3 : s ≠ ⟨#[105, 110, 116]⟩ := by simpa using h
 have hs' : s = ⟨#[97, 116, 111, 109]⟩ := by simpa [h1, h2, h3] using hs
 subst hs'
 have et : testB ⟨#[97, 116, 111, 109]⟩ (Tm.mk xk xn xs xt) = (decide (xk = 3) && decide ((xt.length : Int) = 0)) := rfl
 rw [et]
 simp -implicitDefEqProofs only [List.length_map, evF, ↓evZ, implies_true, seval, tf_B6_183]
 refine zx4 (fun h4 => ?_) (fun h4 => ?_)
 · simp -implicitDefEqProofs only [h4, List.length_map, evF, ↓evZ, implies_true, seval, tf_B6_183]
   refine (c_l5Code _ _).to ?_
   simp -implicitDefEqProofs only [List.length_map, evF, ↓evZ, implies_true, seval, tf_B6_183]
 · simp -implicitDefEqProofs only [h4, List.length_map, evF, ↓evZ, implies_true, seval, tf_B6_183]
   refine (c_l5Code _ _).to ?_
   simp -implicitDefEqProofs only [List.length_map, evF, ↓evZ, implies_true, seval, tf_B6_183]
   simp at h4; simp [h4]
def argR (x y : Tm) : Tm × Int := if x.k = 1 ∨ y.k = 1 then (Tm.zero, 2) else if x.k ≠ 2 ∨ y.k ≠ 3 ∨ y.ts.length = 0 then (Tm.zero, 3) else match argT x y with
 | some u => (u, 0)
 | none => (Tm.zero, 1)
abbrev tf_B7_180 := zi tI_3 (zi zI_3 (zi underlying3 (zi tI_31 (zi zI_31 (zi eI_31 (zi eB_31 (zi eZ_31 (zi underlying31 (zi tI_42 (zi zI_42 (zi fI_42_0 (zi fI_42_1 (zi fI_42_2 (zi fI_42_3 bI_42))))))))))))))
theorem c_l5Arg {N : Int} (n : Int) (s : ByteArray) (x y z : Tm) (hy : OkV N y) (st : zy7) : zq7 prog 180 [(Tm.mk 3 n s [x, y, z]).av] st (fun r st' => r = .tup [(argR x y).1.av, .int .i64 (argR x y).2] ∧ st' = st) := by
 have hat0 : aIndexAddr prog 31 (.slice [x.av, y.av, z.av]) (.int .i64 0) = some (.pptr x.av) := ev_at (av := Tm.av) (l := [x, y, z]) (i := 0) eI_31 rfl (Tm.av_width x)
 have hat1 : aIndexAddr prog 31 (.slice [x.av, y.av, z.av]) (.int .i64 1) = some (.pptr y.av) := ev_at (av := Tm.av) (l := [x, y, z]) (i := 1) eI_31 rfl (Tm.av_width y)
 obtain ⟨xk, xn, xs, xt⟩ := x
 obtain ⟨yk, yn, ys, yt⟩ := y
 have hyl : yt.length ≤ 4 := by
  exact hy.kind.2
 rw [Tm.av_mk] at hat0
 simp only [Tm.av_mk xk, Tm.av_mk yk] at hat0 hat1
 unfold argR
 simp only [Tm.av_mk 3, List.map_cons, List.map_nil, Tm.av_mk xk, Tm.av_mk yk, Tm.k, Tm.ts]
 refine zq7.done ?_
 refine wF [1000000] 1 func180 ntmps180 rfl rfl ?_
 intro _
 simp -implicitDefEqProofs only [hat0, hat1, Tm.av_agg, Tm.av_width, List.length_map, zy4, evF, ↓evZ, implies_true, seval, tf_B7_180]
 intro b hb
 have hbad : ∀ o (p : Tm × Int) (k : Int), p = (Tm.zero, k) → (AV.tup [.agg [.int .i64 0, .int .i64 0, .str ⟨#[]⟩, .fslice []], .int .i64 k]).soft = .tup [p.1.av, .int .i64 p.2] ∧ Drops (st.upd b o) st := fun o p k e => by
  rw [e]
  exact ⟨by simp only [Tm.zero, Tm.av_mk, soft_agg, soft_tup, soft_int, soft_bool, soft_str, soft_slice, soft_fslice, soft_ptr, soft_pptr, soft_map, soft_mslice, Tm.soft, List.map_cons, List.map_nil, List.map_nil], (Drops.refl _).upd hb⟩
 refine zx4 (fun h => ?_) (fun h => ?_)
 case refine_2 =>
  have h' : xk = 1 := by simpa using h
  simp -implicitDefEqProofs only [h, hat0, hat1, Tm.av_agg, Tm.av_width, List.length_map, zy4, evF, ↓evZ, implies_true, seval, tf_B7_180]
  exact hbad _ _ 2 (if_pos (.inl h'))
 have hx1 : xk ≠ 1 := by simpa using h
 simp -implicitDefEqProofs only [h, hat0, hat1, Tm.av_agg, Tm.av_width, List.length_map, zy4, evF, ↓evZ, implies_true, seval, tf_B7_180]
 refine zq4 (fun h1 => ?_) (fun h1 => ?_)
 · have h' : yk = 1 := by simpa using h1
   simp -implicitDefEqProofs only [hat0, hat1, Tm.av_agg, Tm.av_width, List.length_map, zy4, evF, ↓evZ, implies_true, seval, tf_B7_180]
   exact hbad _ _ 2 (if_pos (.inr h'))
 have hy1 : yk ≠ 1 := by simpa using h1
 rw [if_neg (fun h2 => h2.elim hx1 hy1)]
 simp -implicitDefEqProofs only [hat0, hat1, Tm.av_agg, Tm.av_width, List.length_map, zy4, evF, ↓evZ, implies_true, seval, tf_B7_180]
 refine zx4 (fun h4 => ?_) (fun h4 => ?_)
 case refine_2 =>
  have h' : xk ≠ 2 := by simpa using h4
  simp -implicitDefEqProofs only [h4, hat0, hat1, Tm.av_agg, Tm.av_width, List.length_map, zy4, evF, ↓evZ, implies_true, seval, tf_B7_180]
  exact hbad _ _ 3 (if_pos (.inl h'))
 have hx2 : xk = 2 := by simpa using h4
 simp -implicitDefEqProofs only [h4, hat0, hat1, Tm.av_agg, Tm.av_width, List.length_map, zy4, evF, ↓evZ, implies_true, seval, tf_B7_180]
 refine zx4 (fun h5 => ?_) (fun h5 => ?_)
 case refine_2 =>
  have h' : yk ≠ 3 := by simpa using h5
  simp -implicitDefEqProofs only [h5, hat0, hat1, Tm.av_agg, Tm.av_width, List.length_map, zy4, evF, ↓evZ, implies_true, seval, tf_B7_180]
  exact hbad _ _ 3 (if_pos (.inr (.inl h')))
 have hy3 : yk = 3 := by simpa using h5
 simp -implicitDefEqProofs only [h5, hat0, hat1, Tm.av_agg, Tm.av_width, List.length_map, zy4, evF, ↓evZ, implies_true, seval, tf_B7_180]
 refine zq4 (fun h6 => ?_) (fun h6 => ?_)
 · have h' : yt.length = 0 := by simp at h6; simp [h6]
   simp -implicitDefEqProofs only [hat0, hat1, Tm.av_agg, Tm.av_width, List.length_map, zy4, evF, ↓evZ, implies_true, seval, tf_B7_180]
   exact hbad _ _ 3 (if_pos (.inr (.inr h')))
 have hyt : yt.length ≠ 0 := by simp at h6; simpa using h6
 rw [if_neg (by simp [hx2, hy3]; intro h7; simp [h7] at hyt)]
 simp -implicitDefEqProofs only [hat0, hat1, Tm.av_agg, Tm.av_width, List.length_map, zy4, evF, ↓evZ, implies_true, seval, tf_B7_180]
 have hno : ¬ (1 ≤ xn ∧ xn ≤ yt.length) → (match argT (.mk xk xn xs xt) (.mk yk yn ys yt) with | some u => (u, (0 : Int)) | none => (Tm.zero, 1)) = (Tm.zero, (1 : Int)) := fun h' => by
  have ea : argT (.mk xk xn xs xt) (.mk yk yn ys yt) = none := if_neg h'
  rw [ea]
 refine zx4 (fun h7 => ?_) (fun h7 => ?_)
 case refine_2 =>
  have h' : xn < 1 := by simpa using h7
  simp -implicitDefEqProofs only [h7, hat0, hat1, Tm.av_agg, Tm.av_width, List.length_map, zy4, evF, ↓evZ, implies_true, seval, tf_B7_180]
  exact hbad _ _ 1 (hno (by omega))
 have hl1 : ¬ xn < 1 := by simpa using h7
 simp -implicitDefEqProofs only [h7, hat0, hat1, Tm.av_agg, Tm.av_width, List.length_map, zy4, evF, ↓evZ, implies_true, seval, tf_B7_180]
 refine zq4 (fun h8 => ?_) (fun h8 => ?_)
 · have h' : (yt.length : Int) < xn := by simpa using h8
   simp -implicitDefEqProofs only [hat0, hat1, Tm.av_agg, Tm.av_width, List.length_map, zy4, evF, ↓evZ, implies_true, seval, tf_B7_180]
   exact hbad _ _ 1 (hno (by omega))
 have hl2 : ¬ (yt.length : Int) < xn := by simpa using h8
 have h' : 1 ≤ xn ∧ xn ≤ yt.length := by omega
 obtain ⟨i, hi⟩ : ∃ i : Nat, xn - 1 = i := ⟨(xn - 1).toNat, by omega⟩
 have hlt : i < yt.length := by omega
 obtain ⟨u, hu⟩ : ∃ u, yt[i]? = some u := ⟨_, List.getElem?_eq_getElem hlt⟩
 have ea : argT (.mk xk xn xs xt) (.mk yk yn ys yt) = some u := by
  refine (if_pos h').trans ?_
  show yt[(xn - 1).toNat]? = some u
  rw [hi, Int.toNat_natCast, hu]
 rw [ea]
 have hw : IntKind.i64.wrap (xn - 1) = (i : Int) := by rw [wrap64 (by omega) (by omega)]; exact hi
 have hatu := ev_at (av := Tm.av) (P := prog) eI_31 hu (Tm.av_width u)
 simp -implicitDefEqProofs only [Tm.av_cells, Tm.av_store, take_all (Tm.av_cells _), agg_cells (Tm.av_agg _), hat0, hat1, hatu, hw, Tm.av_agg, Tm.av_width, List.length_map, zy4, evF, ↓evZ, implies_true, seval, tf_B7_180]
 exact ⟨by simp only [soft_agg, soft_tup, soft_int, soft_bool, soft_str, soft_slice, soft_fslice, soft_ptr, soft_pptr, soft_map, soft_mslice, Tm.soft, List.map_cons, List.map_nil, Tm.soft], (Drops.refl _).upd hb⟩
theorem itm_av (n : Int) : (itm n).av = (Tm.mk 2 n ⟨#[]⟩ []).av := rfl
def arrN (N : Nat) (σ : Sub) : List AV := (List.range N).map fun i : Nat => cellOf (σ (i : Int))
theorem arrN_widths (N : Nat) (σ : Sub) : ∀ e ∈ arrN N σ, e.width = 4 := by intro e h; simp only [arrN, List.mem_map] at h; obtain ⟨i, _, rfl⟩ := h; exact cellOf_width _
theorem arrN_get (N : Nat) (σ : Sub) {i : Nat} (h : i < N) : (arrN N σ)[i]? = some (cellOf (σ (i : Int))) := by
 simp only [arrN, List.getElem?_map, List.getElem?_range h, Option.map_some]
theorem arrN_set (N : Nat) (σ : Sub) {i : Nat} (h : i < N) (u : Tm) : (arrN N σ).set i u.av = arrN N (σ.set (i : Int) u) := by
 apply List.ext_getElem?
 intro j
 by_cases hj : j < N
 · rw [arrN_get N _ hj, List.getElem?_set]
   by_cases e : i = j
   · subst e
     simp [arrN, hj, Sub.set, cellOf]
   · rw [if_neg e, arrN_get N _ hj]
     simp only [Sub.set]
     rw [if_neg (by omega)]
 · rw [List.getElem?_eq_none (by simp [arrN]; omega), List.getElem?_eq_none (by simp [arrN]; omega)]
def ArrN (N : Nat) (st : zy7) (b : Nat) (σ : Sub) : Prop := st b = some (.cells ((arrN N σ).flatMap AV.cells))
theorem ArrN.mid {N : Nat} {st : zy7} {b : Nat} {σ : Sub} (h : ArrN N st b σ) {i : Nat} (hi : i < N) :
 ∃ A B, st b = some (.cells (A ++ (cellOf (σ (i : Int))).cells ++ B)) ∧ A.length = i * 4 ∧ ∀ (u : Tm), ArrN N (st.upd b (.cells (A ++ u.av.cells ++ B))) b (σ.set (i : Int) u) := by
 obtain ⟨A, B, h1, h2, h3⟩ := flat_mid (arrN_widths N σ) (arrN_get N σ hi)
 refine ⟨A, B, by rw [← h1]; exact h, h2, fun u => ?_⟩
 unfold ArrN
 rw [zy7.upd_same, ← arrN_set N σ hi, h3]
theorem ArrN.upd {N : Nat} {st : zy7} {b x : Nat} {σ : Sub} {o : AO} (h : ArrN N st b σ) (hx : x ≠ b) : ArrN N (st.upd x o) b σ := by
 unfold ArrN
 rw [zy7.upd_ne _ _ (Ne.symm hx)]
 exact h
theorem ArrN.none {N : Nat} {st : zy7} {b : Nat} {σ : Sub} (h : ArrN N st b σ) {i : Nat} (hi : i < N) (hn : σ (i : Int) = Option.none) :
 ∃ D, st b = some (.cells D) ∧ D[i * 4 + 0]? = some (.int .i64 0) ∧ i * 4 + 4 ≤ D.length := by
 obtain ⟨A, B, e1, e2, _⟩ := h.mid hi
 rw [hn] at e1
 obtain ⟨r1, r2, r3⟩ := arr_reads (B := B) (C := (cellOf Option.none).cells) e2 rfl
 exact ⟨_, e1, r3, r1⟩
theorem ArrN.some {N : Nat} {st : zy7} {b : Nat} {σ : Sub} (h : ArrN N st b σ) {i : Nat} (hi : i < N) {k n : Int} {s : ByteArray} {ts : List Tm} (hn : σ (i : Int) = Option.some (.mk k n s ts)) :
 ∃ D, st b = Option.some (.cells D) ∧ D[i * 4 + 0]? = Option.some (.int .i64 k) ∧ i * 4 + 4 ≤ D.length ∧ List.take 4 (List.drop (i * 4) D) = [.int .i64 k, .int .i64 n, .str s, .slice (ts.map Tm.av)] := by
 obtain ⟨A, B, e1, e2, _⟩ := h.mid hi
 rw [hn] at e1
 simp only [cellOf, Tm.av_mk, AV.cells] at e1
 obtain ⟨r1, r2, r3⟩ := arr_reads (B := B) (C := [.int .i64 k, .int .i64 n, .str s, .slice (ts.map Tm.av)]) e2 rfl
 exact ⟨_, e1, r3, r1, r2⟩
theorem ArrN.set {N : Nat} {st : zy7} {b : Nat} {σ : Sub} (h : ArrN N st b σ) {i : Nat} (hi : i < N) (u : Tm) :
 ∃ D D', st b = Option.some (.cells D) ∧ i * 4 + 4 ≤ D.length ∧ zy4 D (i * 4) u.av.cells = D' ∧ ArrN N (st.upd b (.cells D')) b (σ.set (i : Int) u) := by
 obtain ⟨A, B, e1, e2, e3⟩ := h.mid hi
 obtain ⟨p1, p2⟩ := partE (B := B) (C := (cellOf (σ (i : Int))).cells) (x := u.av.cells) e2 (cellOf_cells _) (Tm.av_cells u)
 exact ⟨_, _, e1, p2, p1, e3 u⟩
abbrev tf_Q1_199 := zi tI_3 (zi zI_3 (zi underlying3 (zi tI_31 (zi zI_31 (zi eI_31 (zi eB_31 (zi eZ_31 (zi underlying31 (zi tI_42 (zi zI_42 (zi fI_42_0 (zi fI_42_1 (zi fI_42_2 (zi fI_42_3 bI_42))))))))))))))
theorem cN_l3Walk {N : Nat} {σ : Sub} (hok : AllS (OkV N) σ) {f : Nat} {t u : Tm} (hw : WkN σ f t u) (ht : OkV N t) (b : Nat) (st : zy7) (hS : ArrN N st b σ) : zq7 prog 199 [t.av, .mslice b 0 N 4] st (fun r st' => r = u.av ∧ st' = st) := by
 refine zq7.done ?_
 refine wF [1000000, 2] 2 func199 ntmps199 rfl rfl ?_
 intro _
 simp -implicitDefEqProofs only [zy4, evF, ↓evZ, implies_true, seval, tf_Q1_199]
 intro b2 h2 b4 h4
 have hne : b4 ≠ b2 := by rintro rfl; rw [zy7.upd_same] at h4; cases h4
 have hn4 : st b4 = none := by rw [zy7.upd_ne st _ hne] at h4; exact h4
 have hb2 : b2 ≠ b := by rintro rfl; rw [ArrN, h2] at hS; cases hS
 have hb4 : b4 ≠ b := by rintro rfl; rw [ArrN, hn4] at hS; cases hS
 refine zw5 (σ := Nat × Tm) [1000000, 2] [1, 2, 4] (fun p => WkN σ p.1 p.2 u ∧ OkV N p.2) (fun p => []) (fun p => (st.upd b2 (.cells p.2.av.cells)).upd b4 (.cells [.int .i64 0, .int .i64 0, .str ⟨#[]⟩, .fslice []])) (fun p => p.1) (by decide +kernel) ⟨(f, t), ⟨hw, ht⟩, zx7.mk (by simp -implicitDefEqProofs only [zy4, evF, ↓evZ, implies_true, seval, tf_Q1_199])⟩ ?_
 rintro ⟨g, t⟩ ⟨hw, ht⟩
 obtain ⟨k, n, s, ts⟩ := t
 simp only at hw ht
 simp only [Tm.av_mk]
 have hend : k ≠ 1 ∨ σ n = none → u = .mk k n s ts := fun h => by
  cases hw with
  | stop _ => rfl
  | go h1 h2 _ =>
   simp only [Tm.k] at h1
   rcases h with h | h
   · exact absurd h1 h
   · rw [show σ n = some _ from h2] at h; cases h
 simp -implicitDefEqProofs only [zy4, hne, hne.symm, hb2.symm, hb4.symm, hb2, hb4, evF, ↓evZ, implies_true, seval, tf_Q1_199]
 refine zx4 (fun h => ?_) (fun h => ?_)
 case refine_2 =>
  simp -implicitDefEqProofs only [h, zy4, hne, hne.symm, hb2.symm, hb4.symm, hb2, hb4, evF, ↓evZ, implies_true, seval, tf_Q1_199]
  simp only [Bool.not_true, decide_eq_false_iff_not] at h
  rw [hend (.inl h), ← Tm.av_mk]
  exact ⟨Tm.soft _, ((Drops.refl _).upd h2).upd hn4⟩
 simp only [decide_eq_true_eq] at h
 subst h
 obtain ⟨hn0, hn1, _⟩ := ht.var
 obtain ⟨i, rfl⟩ : ∃ i : Nat, n = i := ⟨n.toNat, by omega⟩
 have hi : i < N := by omega
 have hi' : decide ((i : Int) < (N : Int)) = true := by simp; omega
 simp -implicitDefEqProofs only [decide_true, hi', beq_self_eq_true, zy4, hne, hne.symm, hb2.symm, hb4.symm, hb2, hb4, evF, ↓evZ, implies_true, seval, tf_Q1_199]
 have hat := held_at (P := prog) (b := b) (len := N) eI_31 hi
 cases hw with
 | stop hs =>
  obtain ⟨D, e1, e2, _⟩ := hS.none hi (hs rfl)
  simp -implicitDefEqProofs only [hat, e1, e2, decide_true, zy4, hne, hne.symm, hb2.symm, hb4.symm, hb2, hb4, evF, ↓evZ, implies_true, seval, tf_Q1_199]
  exact ⟨by rw [← Tm.av_mk, Tm.soft], ((Drops.refl _).upd h2).upd hn4⟩
 | go h1 h2' h3 =>
  simp only [Tm.n] at h2'
  have ho := hok _ _ h2'
  rename_i g' u'
  obtain ⟨k', n', s', ts'⟩ := u'
  have hk' : ¬ k' = 0 := by have := ho.kind.1; omega
  obtain ⟨D, e1, e2, e3, e4⟩ := hS.some hi h2'
  have e5 : i * 4 + 0 + 4 ≤ D.length := e3
  simp -implicitDefEqProofs only [hat, e1, e2, e3, e4, hk', decide_false, zy4, hne, hne.symm, hb2.symm, hb4.symm, hb2, hb4, evF, ↓evZ, implies_true, seval, tf_Q1_199]
  rw [zy7.upd_mid hne, zy7.upd_comm _ _ _ hne]
  refine ⟨(g', .mk k' n' s' ts'), Nat.lt_succ_self _, ⟨h3, ho⟩, ?_⟩
  simp only [Tm.av_mk]
  exact zx7.mk (by simp -implicitDefEqProofs only [zy4, hne, hne.symm, hb2.symm, hb4.symm, hb2, hb4, evF, ↓evZ, implies_true, seval, tf_Q1_199])
theorem ArrN.acc {N : Nat} {st : zy7} {b bW : Nat} {σ : Sub} {l : List AV} (h : ArrN N st b σ) (hb : l ≠ [] → st bW = Option.none) : ArrN N (accS st bW l) b σ := by
 cases l with
 | nil => exact h
 | cons x l => exact h.upd (by rintro rfl; rw [ArrN, hb (by simp)] at h; cases h)
abbrev tf_Q1_200 := zi tI_3 (zi zI_3 (zi underlying3 (zi tI_4 (zi zI_4 (zi underlying4 (zi tI_31 (zi zI_31 (zi eI_31 (zi eB_31 (zi eZ_31 (zi underlying31 (zi tI_42 (zi zI_42 (zi fI_42_0 (zi fI_42_1 (zi fI_42_2 (zi fI_42_3 (zi bI_42 (zi tI_58 (zi zI_58 (zi eI_58 (zi eB_58 (zi eZ_58 underlying58)))))))))))))))))))))))
theorem cN_l3Within {N : Nat} {σ : Sub} {R : Int → Tm} {rk : Int → Nat} {B : Nat} (G : Good σ R rk B) (hok : AllS (OkX N) σ) (hN : N ≤ 1048576) {n : Int} (hn : σ n = none) (t : Tm) (ht : OkX N t) (b : Nat) (st : zy7) (hS : ArrN N st b σ) :
 zq7 prog 200 [.int .i64 n, t.av, .mslice b 0 N 4] st (fun r st' => r = .bool (decide (n ∈ (t.mapv R).vl)) ∧ st' = st) := by
 refine zq7.done ?_
 refine wF [1000000] 3 func200 ntmps200 rfl rfl ?_
 intro _
 simp -implicitDefEqProofs only [zy4, evF, ↓evZ, implies_true, seval, tf_Q1_200]
 have h0 := c_l1Vars t [] 0 st (Tm.cv_wf t (ht.1.2.1)) (fun h => absurd rfl h) (by have := ht.2; simp only [List.length_nil]; omega)
 simp only [List.map_nil, accV_nil, accS_nil] at h0
 refine h0.mono ?_
 rintro _ _ ⟨b0, rfl, rfl, hb0⟩
 obtain ⟨v1, v2, _⟩ := vars_spec t (Tm.cv_wf t (ht.1.2.1)) []
 simp -implicitDefEqProofs only [zy4, evF, ↓evZ, implies_true, seval, tf_Q1_200]
 refine zw5 (σ := Nat × List Int × Nat) [1000000] [0, 2]
  (fun p => p.1 ≤ p.2.1.length ∧ p.2.1.Nodup ∧ (∀ w ∈ p.2.1, w ∈ VN N) ∧ (p.2.1.map iv ≠ [] → st p.2.2 = none) ∧ (∀ w ∈ p.2.1.take p.1, w ≠ n ∧ ∀ u, σ w = some u → ∀ v ∈ u.vl, v ∈ p.2.1) ∧ (∀ w ∈ p.2.1, n ∈ (R w).vl → n ∈ (t.mapv R).vl) ∧ (n ∈ (t.mapv R).vl → ∃ w ∈ p.2.1, n ∈ (R w).vl))
  (fun p => [(6, .bool false), (7, accV 1 p.2.2 (p.2.1.map iv)), (8, .int .i64 p.1)]) (fun p => accS st p.2.2 (p.2.1.map iv)) (fun p => N - p.1) (by decide +kernel)
  ⟨(0, t.vars [], b0), ⟨Nat.zero_le _, v2 List.nodup_nil, fun w hw => ?_, hb0, by simp, fun w hw hm => ?_, fun hm => ?_⟩, zx7.mk (by simp -implicitDefEqProofs only [zy4, evF, ↓evZ, implies_true, seval, tf_Q1_200])⟩ ?_
 · rcases (v1 w).1 hw with h | h
   · cases h
   · exact mem_VN.2 (ht.1.2.2 w h)
 · rcases (v1 w).1 hw with h | h
   · cases h
   · exact (vl_mapv t).2 ⟨w, h, hm⟩
 · obtain ⟨w, hw, hm⟩ := (vl_mapv t).1 hm
   exact ⟨w, (v1 w).2 (.inr hw), hm⟩
 rintro ⟨i, W, bW⟩ ⟨i1, i2, i3, i4, i5, i6, i7⟩
 simp only at i1 i2 i3 i4 i5 i6 i7
 have haL := accV_len (w := 1) (b := bW) (l := W.map iv) underlying58
 have hWl := nodup_VN i2 (fun m hm => mem_VN.1 (i3 m hm))
 simp -implicitDefEqProofs only [haL, List.length_map, evF, ↓evZ, implies_true, seval, tf_Q1_200]
 refine zq4 (fun h => ?_) (fun h => ?_)
 case refine_2 =>
  simp only [decide_eq_false_iff_not, Int.ofNat_lt] at h
  obtain rfl : i = W.length := by omega
  rw [List.take_length] at i5
  simp -implicitDefEqProofs only [haL, List.length_map, evF, ↓evZ, implies_true, seval, tf_Q1_200]
  have hno : n ∉ (t.mapv R).vl := fun hm => by
   obtain ⟨w, hw, hnw⟩ := i7 hm
   exact within_no G i5 w hw hnw
  exact ⟨by simp only [hno, decide_false, soft_agg, soft_tup, soft_int, soft_bool, soft_str, soft_slice, soft_fslice, soft_ptr, soft_pptr, soft_map, soft_mslice, Tm.soft, List.map_cons, List.map_nil], Drops.accS (Drops.refl _) i4⟩
 simp only [decide_eq_true_eq, Int.ofNat_lt] at h
 obtain ⟨w, hx⟩ : ∃ w, W[i]? = some w := ⟨_, List.getElem?_eq_getElem h⟩
 have hmem := List.mem_of_getElem? hx
 have hat := acc_at (b := bW) (l := W.map iv) (i := i) (x := iv w) eI_58 (by rw [List.getElem?_map, hx]; rfl)
 obtain ⟨hblk, hget⟩ := acc_blk (st := st) (b := bW) hx
 have hw := wrap64 (n := (i : Int) + 1) (by omega) (by omega)
 simp -implicitDefEqProofs only [haL, List.length_map, hat, hblk, hget, Nat.mul_one, hw, evF, ↓evZ, implies_true, seval, tf_Q1_200]
 refine zq4 (fun h2 => ?_) (fun h2 => ?_)
 · simp only [decide_eq_true_eq] at h2
   subst h2
   simp -implicitDefEqProofs only [haL, List.length_map, hat, hblk, hget, Nat.mul_one, hw, evF, ↓evZ, implies_true, seval, tf_Q1_200]
   have hm : w ∈ (t.mapv R).vl := i6 w hmem (by rw [G.free hn, vl_vr]; simp)
   exact ⟨by simp only [hm, decide_true, soft_agg, soft_tup, soft_int, soft_bool, soft_str, soft_slice, soft_fslice, soft_ptr, soft_pptr, soft_map, soft_mslice, Tm.soft, List.map_cons, List.map_nil], Drops.accS (Drops.refl _) i4⟩
 simp only [decide_eq_false_iff_not] at h2
 simp -implicitDefEqProofs only [haL, List.length_map, hat, hblk, hget, Nat.mul_one, hw, evF, ↓evZ, implies_true, seval, tf_Q1_200]
 obtain ⟨hw0, hw1⟩ := mem_VN.1 (i3 w hmem)
 obtain ⟨j, rfl⟩ : ∃ j : Nat, w = j := ⟨w.toNat, by omega⟩
 have hj : j < N := by omega
 have hj' : decide ((j : Int) < (N : Int)) = true := by simp; omega
 have hatj := held_at (P := prog) (b := b) (len := N) eI_31 hj
 have hSA := hS.acc i4
 have htk : W.take (i + 1) = W.take i ++ [(j : Int)] := by rw [List.take_add_one, hx]; rfl
 have step : ∀ W' : List Int, (∀ v ∈ W, v ∈ W') → (∀ u, σ (j : Int) = some u → ∀ v ∈ u.vl, v ∈ W') → ∀ w ∈ W'.take (i + 1), W'.take (i + 1) = W.take (i + 1) → w ≠ n ∧ ∀ u, σ w = some u → ∀ v ∈ u.vl, v ∈ W' := by
  intro W' hsub hnew w hw' hte
  rw [hte, htk] at hw'
  rcases List.mem_append.1 hw' with hw' | hw'
  · exact ⟨(i5 w hw').1, fun u hu v hv => hsub v ((i5 w hw').2 u hu v hv)⟩
  · simp only [List.mem_cons, List.not_mem_nil, or_false] at hw'
    subst hw'
    exact ⟨h2, hnew⟩
 cases hs : σ (j : Int) with
 | none =>
  obtain ⟨D, e1, e2, _⟩ := hSA.none hj hs
  simp -implicitDefEqProofs only [hj', hatj, e1, e2, decide_true, beq_self_eq_true, haL, List.length_map, hat, hblk, hget, Nat.mul_one, hw, evF, ↓evZ, implies_true, seval, tf_Q1_200]
  exact ⟨(i + 1, W, bW), by simp only; omega, ⟨h, i2, i3, i4, fun w hw' => step W (fun _ h => h) (fun u hu => by rw [hs] at hu; cases hu) w hw' rfl, i6, i7⟩, zx7.mk (by simp -implicitDefEqProofs only [haL, List.length_map, hat, hblk, hget, Nat.mul_one, hw, evF, ↓evZ, implies_true, seval, tf_Q1_200])⟩
 | some u =>
  obtain ⟨k', n', s', ts'⟩ := u
  have ho := hok _ _ hs
  have hk' : ¬ k' = 0 := by have := ho.1.kind.1; omega
  obtain ⟨D, e1, e2, e3, e4⟩ := hSA.some hj hs
  simp -implicitDefEqProofs only [hj', hatj, e1, e2, e3, e4, hk', decide_false, beq_self_eq_true, haL, List.length_map, hat, hblk, hget, Nat.mul_one, hw, evF, ↓evZ, implies_true, seval, tf_Q1_200]
  have hwf := Tm.cv_wf _ (ho.1.2.1)
  have hc := c_l1Vars (.mk k' n' s' ts') W bW st hwf i4 (by have := ho.2; omega)
  obtain ⟨u1, u2, m, u3⟩ := vars_spec _ hwf W
  rw [Tm.av_mk] at hc
  refine hc.mono ?_
  rintro _ _ ⟨b', rfl, rfl, hb'⟩
  generalize (Tm.mk k' n' s' ts').vars W = W' at *
  have hte : W'.take (i + 1) = W.take (i + 1) := by rw [u3, List.take_append_of_le_length (by omega)]
  have hbd : (Tm.mk k' n' s' ts').mapv R = R (j : Int) := (G.bound hs).symm
  simp -implicitDefEqProofs only [haL, List.length_map, hat, hblk, hget, Nat.mul_one, hw, evF, ↓evZ, implies_true, seval, tf_Q1_200]
  refine ⟨(i + 1, W', b'), by simp only; omega, ⟨by rw [u3]; simp only [List.length_append]; omega, u2 i2, fun w hw' => ?_, hb', fun w hw' => step W' (fun v hv => (u1 v).2 (.inl hv)) (fun u hu v hv => ?_) w hw' hte, fun w hw' hm => ?_, fun hm => ?_⟩, zx7.mk (by simp -implicitDefEqProofs only [haL, List.length_map, hat, hblk, hget, Nat.mul_one, hw, evF, ↓evZ, implies_true, seval, tf_Q1_200])⟩
  · rcases (u1 w).1 hw' with h | h
    · exact i3 w h
    · exact mem_VN.2 (ho.1.2.2 w h)
  · rw [hs] at hu
    cases hu
    exact (u1 v).2 (.inr hv)
  · rcases (u1 w).1 hw' with h | h
    · exact i6 w h hm
    · refine i6 (j : Int) hmem ?_
      rw [← hbd]
      exact (vl_mapv _).2 ⟨w, h, hm⟩
  · obtain ⟨w, h, hm⟩ := i7 hm
    exact ⟨w, (u1 w).2 (.inl h), hm⟩
end Go.AW
