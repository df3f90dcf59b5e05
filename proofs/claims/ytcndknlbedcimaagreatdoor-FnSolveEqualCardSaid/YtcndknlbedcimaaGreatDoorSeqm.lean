import Derived.Test.YtcndknlbedcimaaGreatDoorSeql
import Derived.Test.YtcndknlbedcimaaGreatDoorSeqk
import Derived.Test.YtcndknlbedcimaaGreatDoorSeqf
import Derived.Test.YtcndknlbedcimaaGreatDoorSeqi
import Derived.Test.YtcndknlbedcimaaGreatDoorSeqj
set_option linter.unusedSimpArgs false
set_option linter.unusedVariables false
set_option maxRecDepth 100000
namespace Go.AW
open Go.Proofs.Tryz
def AN (N b : Nat) (st : zy7) (σ' : Sub) (st' : zy7) : Prop := ArrN N st' b σ' ∧ ∀ x o, st x = some o → x ≠ b → st' x = some o
theorem AN.refl {N b : Nat} {st : zy7} {σ : Sub} (h : ArrN N st b σ) : AN N b st σ st := ⟨h, fun _ _ h _ => h⟩
theorem AN.trans {N b : Nat} {st s2 s3 : zy7} {σ2 σ3 : Sub} (x : AN N b st σ2 s2) (y : AN N b s2 σ3 s3) : AN N b st σ3 s3 := ⟨y.1, fun q o h hn => y.2 q o (x.2 q o h hn) hn⟩
def UFN (N : Nat) (f : Nat) (b : Nat) (σ : Sub) (a c : Tm) (r : Bool) (σ' : Sub) : Prop := ∀ st, ArrN N st b σ → zq7 prog f [a.av, c.av, .mslice b 0 N 4] st (fun r' st' => r' = .bool r ∧ AN N b st σ' st')
abbrev tf_Q2_177 := zi tI_3 (zi zI_3 (zi underlying3 (zi tI_4 (zi zI_4 (zi underlying4 (zi tI_9 (zi zI_9 (zi underlying9 (zi tI_31 (zi zI_31 (zi eI_31 (zi eB_31 (zi eZ_31 (zi underlying31 (zi tI_42 (zi zI_42 (zi fI_42_0 (zi fI_42_1 (zi fI_42_2 (zi fI_42_3 bI_42))))))))))))))))))))
theorem l3UN_body (N : Nat) (hN : N ≤ 1048576) (g : Nat) (bb : Nat) (IH : ∀ (σ : Sub) (a b : Tm) (r : Bool) (σ' : Sub) (add : List Int), IsGood σ → AllS (OkX N) σ → OkX N a → OkX N b → uniF g σ a b = some (r, σ', add) → UFN N 177 bb σ a b r σ')
 (σ : Sub) (a b : Tm) (r : Bool) (σ' : Sub) (add : List Int) (hg : IsGood σ) (hok : AllS (OkX N) σ) (ha0 : OkX N a) (hb0 : OkX N b) (h : uniF (g + 1) σ a b = some (r, σ', add))
 (hswap : (wk σ a).k ≠ 1 → (wk σ b).k = 1 → UFN N 177 bb σ (wk σ b) (wk σ a) r σ') : UFN N 177 bb σ a b r σ' := by
 intro st hS
 obtain ⟨rk, B, G⟩ := hg.rs
 obtain ⟨fa, wa⟩ := G.wk a
 obtain ⟨fb, wb⟩ := G.wk b
 have hokA : AllS (OkV N) σ := fun n u hu => (hok n u hu).1
 have hca := fun st (hS : ArrN N st bb σ) => cN_l3Walk hokA wa ha0.1 bb st hS
 have hcb := fun st (hS : ArrN N st bb σ) => cN_l3Walk hokA wb hb0.1 bb st hS
 have ea := wa.end
 have eb := wb.end
 have hsa := wa.all (p := OkX N) hok ha0
 have hsb := wb.all (p := OkX N) hok hb0
 replace h := uniF_cases h
 generalize wk σ a = a1 at *
 generalize wk σ b = b1 at *
 clear wa wb
 refine wF [1000000, 3, 4] 3 func177 ntmps177 rfl rfl ?_
 intro hfit
 simp -implicitDefEqProofs only [zy4, evF, ↓evZ, implies_true, seval, tf_Q2_177]
 intro b4 h4 b5 h5
 have h54 : b5 ≠ b4 := by rintro rfl; rw [zy7.upd_same] at h5; cases h5
 have hn5 : st b5 = none := by rw [zy7.upd_ne st _ h54] at h5; exact h5
 have h4b : b4 ≠ bb := by rintro rfl; rw [ArrN, h4] at hS; cases hS
 have h5b : b5 ≠ bb := by rintro rfl; rw [ArrN, hn5] at hS; cases hS
 have hS' : ∀ o o', ArrN N ((st.upd b4 o).upd b5 o') bb σ := fun o o' => (hS.upd h4b).upd h5b
 have hQ : ∀ o o', AN N bb st σ ((st.upd b4 o).upd b5 o') := fun o o' => ⟨hS' o o', fun x p h _ => by
  rw [zy7.upd_ne _ _ (by rintro rfl; rw [hn5] at h; cases h), zy7.upd_ne _ _ (by rintro rfl; rw [h4] at h; cases h)]; exact h⟩
 simp -implicitDefEqProofs only [Tm.av_cells, take_all (Tm.av_cells a), agg_cells (Tm.av_agg a), Tm.av_agg, Tm.av_width, Nat.le_refl, zy4, h54, h54.symm, evF, ↓evZ, implies_true, seval, tf_Q2_177]
 refine (hca _ (hS' _ _)).to ?_
 simp -implicitDefEqProofs only [Tm.av_cells, take_all (Tm.av_cells b), agg_cells (Tm.av_agg b), Tm.av_agg, Tm.av_width, Nat.le_refl, Tm.av_store, zy4, h54, h54.symm, evF, ↓evZ, implies_true, seval, tf_Q2_177]
 rw [zy7.upd_mid h54, zy7.upd_comm _ _ _ h54]
 refine (hcb _ (hS' _ _)).to ?_
 obtain ⟨ka, na, sa, tsa⟩ := a1
 obtain ⟨kb, nb, sb', tsb⟩ := b1
 obtain ⟨hla, hlas⟩ := Tm.small_mk (hsa.1.small)
 obtain ⟨hlb, hlbs⟩ := Tm.small_mk (hsb.1.small)
 have hfin : ∀ o o', AN N bb st σ ((st.upd b4 o).upd b5 o') := hQ
 have hka := fun h => (okX_kids N) _ h hsa
 have hkb := fun h => (okX_kids N) _ h hsb
 simp only [Tm.av_mk]
 simp only [Tm.k, Tm.n, Tm.s, Tm.ts] at h ea eb hswap hka hkb
 simp -implicitDefEqProofs only [zy7.upd_upd, zy4, h54, h54.symm, evF, ↓evZ, implies_true, seval, tf_Q2_177]
 have var : ∀ {n : Int} {t : Tm}, n ∈ VN N → σ n = none → OkX N t → bnd σ n t = (r, σ', add) → ∀ s0, ArrN N s0 bb σ → zq7 prog 200 [.int .i64 n, t.av, .mslice bb 0 N 4] s0 (fun r' st' => r' = .bool (!r) ∧ st' = s0) := by
  intro n t _ hn ht hb s0 hs0
  have := cN_l3Within G hok hN hn t ht bb s0 hs0
  unfold bnd at hb
  split at hb
  · rename_i hm
    cases hb
    simpa [hm] using this
  · rename_i hm
    cases hb
    simpa [hm] using this
 rcases h with ⟨h1, h2, h3, rfl, rfl, rfl⟩ | ⟨h1, h2, h3⟩ | ⟨h1, h2, h3⟩ | ⟨h1, h2, h3, h4⟩ | ⟨h1, h2, h3, rfl, rfl, rfl⟩
 · subst h1 h2 h3
   simp -implicitDefEqProofs only [decide_true, beq_self_eq_true, zy4, h54, h54.symm, evF, ↓evZ, implies_true, seval, tf_Q2_177]
   exact hfin _ _
 · subst h1
   have hin := mem_VN.2 (hsa.1.2.2 na (by rw [Tm.vl_var rfl]; simp))
   obtain ⟨hn0, hn1⟩ := mem_VN.1 hin
   have hcw := var hin (ea rfl) hsb h3 _ (hS' (.cells [.int .i64 1, .int .i64 na, .str sa, .slice (tsa.map Tm.av)]) (.cells [.int .i64 kb, .int .i64 nb, .str sb', .slice (tsb.map Tm.av)]))
   have hna := ea rfl
   rw [Tm.av_mk] at hcw
   obtain ⟨i, rfl⟩ : ∃ i : Nat, na = i := ⟨na.toNat, by omega⟩
   have hi : i < N := by omega
   have hat := held_at (P := prog) (b := bb) (len := N) eI_31 hi
   have h6 : kb = 1 → ¬ (i : Int) = nb := fun e1 e => h2 ⟨e1, e⟩
   have tail : ∀ (s0 : zy7), s0 = ((st.upd b4 (.cells [.int .i64 1, .int .i64 i, .str sa, .slice (tsa.map Tm.av)])).upd b5 (.cells [.int .i64 kb, .int .i64 nb, .str sb', .slice (tsb.map Tm.av)])) → r = true →
    ∃ D D', s0 bb = some (.cells D) ∧ i * 4 + 4 ≤ D.length ∧ zy4 D (i * 4) [.int .i64 kb, .int .i64 nb, .str sb', .slice (tsb.map Tm.av)] = D' ∧ AN N bb st σ' (s0.upd bb (.cells D')) := by
    rintro _ rfl rfl
    unfold bnd at h3
    split at h3
    · cases h3
    · cases h3
      obtain ⟨D, D', e1, e2, e3, e4⟩ := (hS' (.cells [.int .i64 1, .int .i64 i, .str sa, .slice (tsa.map Tm.av)]) (.cells [.int .i64 kb, .int .i64 nb, .str sb', .slice (tsb.map Tm.av)])).set hi (.mk kb nb sb' tsb)
      refine ⟨D, D', e1, e2, by rw [← e3, Tm.av_mk]; rfl, e4, fun x o hx hxb => ?_⟩
      rw [zy7.upd_ne _ _ hxb]
      exact (hQ _ _).2 x o hx hxb
   by_cases h5 : kb = 1
   · subst h5
     simp -implicitDefEqProofs only [decide_true, h6 rfl, decide_false, beq_self_eq_true, zy4, h54, h54.symm, evF, ↓evZ, implies_true, seval, tf_Q2_177]
     refine hcw.to ?_
     cases r with
     | false =>
      simp -implicitDefEqProofs only [zy4, h54, h54.symm, evF, ↓evZ, implies_true, seval, tf_Q2_177]
      unfold bnd at h3
      split at h3
      · cases h3
        exact hfin _ _
      · cases h3
     | true =>
      obtain ⟨D, D', e1, e2, e3, e4⟩ := tail _ rfl rfl
      simp -implicitDefEqProofs only [hat, e1, e2, zy4, h54, h54.symm, evF, ↓evZ, implies_true, seval, tf_Q2_177]
      rw [← e3] at e4
      exact e4
   · simp -implicitDefEqProofs only [decide_true, h5, decide_false, beq_self_eq_true, zy4, h54, h54.symm, evF, ↓evZ, implies_true, seval, tf_Q2_177]
     refine hcw.to ?_
     cases r with
     | false =>
      simp -implicitDefEqProofs only [zy4, h54, h54.symm, evF, ↓evZ, implies_true, seval, tf_Q2_177]
      unfold bnd at h3
      split at h3
      · cases h3
        exact hfin _ _
      · cases h3
     | true =>
      obtain ⟨D, D', e1, e2, e3, e4⟩ := tail _ rfl rfl
      simp -implicitDefEqProofs only [hat, e1, e2, zy4, h54, h54.symm, evF, ↓evZ, implies_true, seval, tf_Q2_177]
      rw [← e3] at e4
      exact e4
 · subst h2
   have hsw := hswap h1 rfl
   simp only [UFN, Tm.av_mk] at hsw
   simp -implicitDefEqProofs only [decide_true, h1, decide_false, beq_self_eq_true, zy4, h54, h54.symm, evF, ↓evZ, implies_true, seval, tf_Q2_177]
   refine (hsw _ (hS' _ _)).mono ?_
   rintro _ s2 ⟨rfl, hp⟩
   simp -implicitDefEqProofs only [zy4, h54, h54.symm, evF, ↓evZ, implies_true, seval, tf_Q2_177]
   exact (hQ _ _).trans hp
 · rw [headEq_iff] at h3
   simp only [Tm.k, Tm.n, Tm.s, Tm.ts] at h3
   obtain ⟨rfl, rfl, rfl, hlen⟩ := h3
   have hlen' : decide ((tsa.length : Int) = (tsb.length : Int)) = true := by simp [hlen]
   simp -implicitDefEqProofs only [decide_true, decide_false, hlen', beq_self_eq_true, zy4, h54, h54.symm, List.length_map, h1, evF, ↓evZ, implies_true, seval, tf_Q2_177]
   have hS0 := hS' (.cells [.int .i64 ka, .int .i64 na, .str sa, .slice (tsa.map Tm.av)]) (.cells [.int .i64 ka, .int .i64 na, .str sa, .slice (tsb.map Tm.av)])
   have hQ0 := hQ (.cells [.int .i64 ka, .int .i64 na, .str sa, .slice (tsa.map Tm.av)]) (.cells [.int .i64 ka, .int .i64 na, .str sa, .slice (tsb.map Tm.av)])
   have e4 : ((st.upd b4 (.cells [.int .i64 ka, .int .i64 na, .str sa, .slice (tsa.map Tm.av)])).upd b5 (.cells [.int .i64 ka, .int .i64 na, .str sa, .slice (tsb.map Tm.av)])) b4 = some (.cells [.int .i64 ka, .int .i64 na, .str sa, .slice (tsa.map Tm.av)]) := by rw [zy7.upd_ne _ _ h54.symm, zy7.upd_same]
   have e5 : ((st.upd b4 (.cells [.int .i64 ka, .int .i64 na, .str sa, .slice (tsa.map Tm.av)])).upd b5 (.cells [.int .i64 ka, .int .i64 na, .str sa, .slice (tsb.map Tm.av)])) b5 = some (.cells [.int .i64 ka, .int .i64 na, .str sa, .slice (tsb.map Tm.av)]) := zy7.upd_same _ _ _
   generalize (st.upd b4 (.cells [.int .i64 ka, .int .i64 na, .str sa, .slice (tsa.map Tm.av)])).upd b5 (.cells [.int .i64 ka, .int .i64 na, .str sa, .slice (tsb.map Tm.av)]) = s0 at *
   refine zy5 (σ := Sub × List Int × zy7) [1000000, 3, 4] [2, 3, 4] tsa
    (fun i p => IsGood p.1 ∧ AllS (OkX N) p.1 ∧ AN N bb s0 p.1 p.2.2 ∧ unisF g p.1 (tsa.drop i) (tsb.drop i) = some (r, σ', p.2.1))
    (fun i _ => [(6, .bool false), (7, .int .i64 i)]) (fun _ p => p.2.2) (by decide +kernel)
    ⟨(σ, add, s0), ⟨hg, hok, AN.refl hS0, h4⟩, zx7.mk (by simp -implicitDefEqProofs only [zy4, h54, h54.symm, List.length_map, h1, evF, ↓evZ, implies_true, seval, tf_Q2_177])⟩ (fun i x p hx hlt hlt' hdr hinv => ?_) (fun p hge hinv => ?_)
   case refine_2 =>
    obtain ⟨σi, rest, si⟩ := p
    obtain ⟨i1, i2, i3, i5⟩ := hinv
    simp only at i1 i2 i3 i5
    have f4 := i3.2 b4 _ e4 h4b
    rw [List.drop_length, hlen, List.drop_length] at i5
    simp only [unisF, Option.some.injEq, Prod.mk.injEq] at i5
    obtain ⟨rfl, rfl, rfl⟩ := i5
    simp -implicitDefEqProofs only [hge, zy4, f4, List.length_map, evF, ↓evZ, implies_true, seval, tf_Q2_177]
    exact hQ0.trans i3
   obtain ⟨σi, rest, si⟩ := p
   obtain ⟨i1, i2, i3, i5⟩ := hinv
   simp only at i1 i2 i3 i5
   obtain ⟨y, hy⟩ : ∃ y, tsb[i]? = some y := ⟨_, List.getElem?_eq_getElem (by omega)⟩
   have hdr' : tsb.drop i = y :: tsb.drop (i + 1) := by
    obtain ⟨h1, h2⟩ := List.getElem?_eq_some_iff.1 hy
    rw [List.drop_eq_getElem_cons h1, h2]
   rw [hdr, hdr', unisF] at i5
   have f4 := i3.2 b4 _ e4 h4b
   have f5 := i3.2 b5 _ e5 h5b
   have hw := wrap64 (n := (i : Int) + 1) (by omega) (by omega)
   simp -implicitDefEqProofs only [hlt', zy4, h54, h54.symm, List.length_map, h1, f4, f5, ev_at (av := Tm.av) eI_31 hx (Tm.av_width x), ev_at (av := Tm.av) eI_31 hy (Tm.av_width y), evF, ↓evZ, implies_true, seval, tf_Q2_177]
   refine wP [(0, 1), (2, 1), (5, 1), (7, 1), (10, 1), (1, 2), (3, 1), (4, 2), (6, 2), (8, 1), (9, 2), (11, 0), (12, 1)] [0, 2, 5, 7, 10, 1, 3, 4, 6, 8, 9, 12] mixed ?_
   simp -implicitDefEqProofs only [zy4, h54, h54.symm, List.length_map, h1, f4, f5, ev_at (av := Tm.av) eI_31 hx (Tm.av_width x), ev_at (av := Tm.av) eI_31 hy (Tm.av_width y), evF, ↓evZ, implies_true, seval, tf_Q2_177]
   cases hu : uniF g σi x y with
   | none => rw [hu] at i5; cases i5
   | some p1 =>
    obtain ⟨r1, σ1, tr1⟩ := p1
    rw [hu] at i5
    have hx1 : OkX N x := hka h1 x (List.mem_of_getElem? hx)
    have hy1 : OkX N y := hkb h2 y (List.mem_of_getElem? hy)
    have hU := uniF_uni i1 hu
    have hA := (uni_all (okX_kids N) g).1 σi x y r1 σ1 tr1 i1 hu i2 hx1 hy1
    refine (IH σi x y r1 σ1 tr1 i1 i2 hx1 hy1 hu si i3.1).mono ?_
    rintro _ s2 ⟨rfl, hp2⟩
    cases r1 with
    | false =>
     simp only [Option.some.injEq, Prod.mk.injEq] at i5
     obtain ⟨rfl, rfl, rfl⟩ := i5
     simp -implicitDefEqProofs only [zy4, h54, h54.symm, List.length_map, h1, f4, f5, ev_at (av := Tm.av) eI_31 hx (Tm.av_width x), ev_at (av := Tm.av) eI_31 hy (Tm.av_width y), evF, ↓evZ, implies_true, seval, tf_Q2_177]
     exact hQ0.trans (i3.trans hp2)
    | true =>
     simp only at i5
     cases hu2 : unisF g σ1 (tsa.drop (i + 1)) (tsb.drop (i + 1)) with
     | none => rw [hu2] at i5; cases i5
     | some p2 =>
      obtain ⟨r2, σ2, tr2⟩ := p2
      rw [hu2] at i5
      simp only [Option.some.injEq, Prod.mk.injEq] at i5
      obtain ⟨rfl, rfl, _⟩ := i5
      simp -implicitDefEqProofs only [zy4, h54, h54.symm, List.length_map, h1, f4, f5, ev_at (av := Tm.av) eI_31 hx (Tm.av_width x), ev_at (av := Tm.av) eI_31 hy (Tm.av_width y), evF, ↓evZ, implies_true, seval, tf_Q2_177]
      exact ⟨(σ1, tr2, s2), ⟨hU.good, hA, i3.trans hp2, hu2⟩, zx7.mk (by simp -implicitDefEqProofs only [hw, zy4, h54, h54.symm, List.length_map, h1, f4, f5, ev_at (av := Tm.av) eI_31 hx (Tm.av_width x), ev_at (av := Tm.av) eI_31 hy (Tm.av_width y), evF, ↓evZ, implies_true, seval, tf_Q2_177])⟩
 · have hd : ka = kb → na = nb → sa = sb' → ¬ (tsa.length : Int) = (tsb.length : Int) := by
    intro e1 e2 e3 e4
    have : headEq (Tm.mk ka na sa tsa) (Tm.mk kb nb sb' tsb) = true := headEq_iff.2 ⟨e1, e2, e3, by simp only [Tm.ts]; omega⟩
    rw [h3] at this; cases this
   by_cases e1 : ka = kb
   · by_cases e2 : na = nb
     · by_cases e3 : sa = sb'
       · have e4 := hd e1 e2 e3
         subst e1 e2 e3
         simp -implicitDefEqProofs only [decide_false, decide_true, beq_self_eq_true, zy4, h54, h54.symm, h1, List.length_map, e4, evF, ↓evZ, implies_true, seval, tf_Q2_177]
         exact hfin _ _
       · subst e1 e2
         simp -implicitDefEqProofs only [decide_false, decide_true, beq_self_eq_true, zy4, h54, h54.symm, h1, List.length_map, e3, evF, ↓evZ, implies_true, seval, tf_Q2_177]
         exact hfin _ _
     · subst e1
       simp -implicitDefEqProofs only [decide_false, decide_true, beq_self_eq_true, zy4, h54, h54.symm, h1, List.length_map, e2, evF, ↓evZ, implies_true, seval, tf_Q2_177]
       exact hfin _ _
   · clear hd
     simp -implicitDefEqProofs only [decide_false, decide_true, beq_self_eq_true, zy4, h54, h54.symm, h1, h2, List.length_map, e1, evF, ↓evZ, implies_true, seval, tf_Q2_177]
     exact hfin _ _
theorem cN_l3Unify (N : Nat) (hN : N ≤ 1048576) (bb : Nat) : ∀ (g : Nat) (σ : Sub) (a b : Tm) (r : Bool) (σ' : Sub) (add : List Int), IsGood σ → AllS (OkX N) σ → OkX N a → OkX N b → uniF g σ a b = some (r, σ', add) → UFN N 177 bb σ a b r σ'
 | 0, σ, a, b, r, σ', add, hg, hok, ha, hb, h => by simp only [uniF] at h; cases h
 | g + 1, σ, a, b, r, σ', add, hg, hok, ha, hb, h => by
  refine l3UN_body N hN g bb (cN_l3Unify N hN bb g) σ a b r σ' add hg hok ha hb h fun h1 h2 => ?_
  obtain ⟨rk, B, G⟩ := hg.rs
  obtain ⟨fa, wa⟩ := G.wk a
  obtain ⟨fb, wb⟩ := G.wk b
  have eb := wk_wk wb
  have ea := wk_wk wa
  have hbn : bnd σ (wk σ b).n (wk σ a) = (r, σ', add) := by
   rcases uniF_cases h with h | h | h | h | h
   · exact absurd h.1 h1
   · exact absurd h.1 h1
   · exact h.2.2
   · exact absurd h2 h.2.1
   · exact absurd h2 h.2.1
  refine l3UN_body N hN 0 bb (fun σ a b r σ' add _ _ _ _ h => by simp only [uniF] at h; cases h) σ (wk σ b) (wk σ a) r σ' add hg hok (wb.all (p := OkX N) hok hb) (wa.all (p := OkX N) hok ha) ?_ fun h3 => ?_
  · rw [uniF, eb, ea, if_neg (fun h => h1 h.2.1), if_pos h2, hbn]
  · rw [eb] at h3; exact absurd h2 h3
end Go.AW
namespace Go.AW
noncomputable def uniCG (σ : Sub) (a b : Tm) : Int × Sub × List Int := (codeB (uniG σ a b).1, (uniG σ a b).2)
noncomputable def argCG (σ : Sub) (x y z : Tm) : Int × Sub × List Int :=
 if x.k = 1 ∨ y.k = 1 then (2, σ, []) else if x.k ≠ 2 ∨ y.k ≠ 3 ∨ y.ts.length = 0 then (3, σ, []) else match argT x y with
  | some u => uniCG σ z u
  | none => (1, σ, [])
noncomputable def solveG (σ : Sub) (s : ByteArray) : List Tm → Int × Sub × List Int
 | [] => (codeB (decide (s = ⟨#[116, 114, 117, 101]⟩)), σ, [])
 | [x] => (codeB (testB s x), σ, [])
 | [x, y] => if inN cmpNames s = true then (cmpC s x y, σ, []) else if s = ⟨#[61]⟩ then uniCG σ x y else if s = ⟨#[92, 61]⟩ then (codeB (!(uniG σ x y).1), σ, [])
  else if s = ⟨#[61, 61]⟩ then (codeB (x.same y), σ, []) else if y.ev.2 ≠ 0 then (y.ev.2, σ, []) else uniCG σ x (itm y.ev.1)
 | [x, y, z] => argCG σ x y z
 | _ => (0, σ, [])
structure SolG (N : Int) (σ : Sub) (σ' : Sub) (add : List Int) : Prop where
 good : IsGood σ'
 ok : AllS (OkX N) σ'
 keep : ∀ n, n ∉ add → σ' n = σ n
 new : ∀ n ∈ add, σ n = none ∧ σ' n ≠ none
 nodup : add.Nodup
 inN : ∀ n ∈ add, 0 ≤ n ∧ n < N
theorem SolG.same {N : Int} {σ : Sub} (hg : IsGood σ) (ho : AllS (OkX N) σ) : SolG N σ σ [] := ⟨hg, ho, fun _ _ => rfl, by simp, List.nodup_nil, by simp⟩
theorem UniG.sol {N : Int} {σ : Sub} {a b : Tm} {r : Bool} {σ' : Sub} {tr : List Int} (h : UniG N σ a b r σ' tr) : SolG N σ σ' tr := ⟨h.uni.good, h.ok, h.uni.keep, h.uni.new, h.uni.nodup, h.inN⟩
theorem SolG.uni {N : Nat} {σ : Sub} {a b : Tm} (hg : IsGood σ) (ho : AllS (OkX N) σ) (ha : OkX N a) (hb : OkX N b) : SolG N σ (uniG σ a b).2.1 (uniG σ a b).2.2 := by
 obtain ⟨r, σ', tr, h⟩ := uniG_of hg ho ha hb
 rw [h.eq]
 exact h.sol
theorem itm_okX {N : Int} {n : Int} (h : InR n) : OkX N (itm n) := by
 have h1 := itm_valid h
 have h2 := Tm.valid_okV h1
 refine ⟨⟨h2.1, h2.2.1, fun v hv => ?_⟩, Tm.valid_nodes h1⟩
 unfold itm at hv
 rw [Tm.vl_mk (by decide)] at hv
 obtain ⟨t, ht, _⟩ := hv
 cases ht
theorem argT_okX {N : Int} {x y u : Tm} (hy : OkX N y) (hk : y.k ≠ 1) (h : argT x y = some u) : OkX N u := okX_kids N y hk hy u (argT_mem h)
theorem solveG_sol {N : Nat} {σ : Sub} (hg : IsGood σ) (ho : AllS (OkX N) σ) (s : ByteArray) (ks : List Tm) (hv : ∀ x ∈ ks, OkX N x) : SolG N σ (solveG σ s ks).2.1 (solveG σ s ks).2.2 := by
 have hs := SolG.same hg ho
 match ks, hv with
 | [], _ => exact hs
 | [x], _ => exact hs
 | [x, y], hv =>
  have hx := hv x (by simp)
  have hy := hv y (by simp)
  simp only [solveG]
  split
  · exact hs
  split
  · exact SolG.uni hg ho hx hy
  split
  · exact hs
  split
  · exact hs
  split
  · exact hs
  · exact SolG.uni hg ho hx (itm_okX (Tm.ev_in y hy.1))
 | [x, y, z], hv =>
  have hy := hv y (by simp)
  have hz := hv z (by simp)
  simp only [solveG, argCG]
  split
  · exact hs
  rename_i h1
  split
  · exact hs
  split
  · rename_i u hu
    exact SolG.uni hg ho hz (argT_okX hy (fun h => h1 (.inr h)) hu)
  · exact hs
 | a :: b :: c :: d :: l, _ => exact hs
theorem ev_ren (ρ : Int → Int) : ∀ t : Tm, (ren ρ t).ev = t.ev := by
 intro t
 induction t using Tm.ind with
 | h k n s ts ih =>
  by_cases h1 : k = 1
  · rw [ren_var ρ (t := .mk k n s ts) h1, vr, Tm.ev_mk, Tm.ev_mk, h1]
    simp
  rw [ren_mk ρ h1, Tm.ev_mk, Tm.ev_mk, List.map_map]
  have : ts.map (Tm.ev ∘ ren ρ) = ts.map Tm.ev := List.map_congr_left fun x hx => ih x hx
  rw [this]
section
variable {ρ : Int → Int} {N : Int} {σ τ : Sub}
theorem Sim.back (S : Sim ρ N σ τ) : ∃ δ : Int → Int, ∀ v, 0 ≤ v → v < N → δ (ρ v) = v := by
 refine ⟨fun w => open Classical in if h : ∃ v, 0 ≤ v ∧ v < N ∧ ρ v = w then h.choose else 0, fun v h0 h1 => ?_⟩
 have h : ∃ u, 0 ≤ u ∧ u < N ∧ ρ u = ρ v := ⟨v, h0, h1, rfl⟩
 simp only [dif_pos h]
 obtain ⟨a, b, c⟩ := h.choose_spec
 exact S.inj _ _ a b h0 h1 c
theorem Sim.renInj (S : Sim ρ N σ τ) {x y : Tm} (hx : OkV N x) (hy : OkV N y) (e : ren ρ x = ren ρ y) : x = y := by
 obtain ⟨δ, hδ⟩ := S.back
 have key : ∀ {t : Tm}, OkV N t → ren δ (ren ρ t) = t := fun {t} ht => by
  rw [show ren δ (ren ρ t) = t.mapv fun v => vr (δ (ρ v)) from ren_mapv ρ _ t]
  rw [mapv_congr (g := vr) t fun v hv => by rw [hδ v (ht.2.2 v hv).1 (ht.2.2 v hv).2]]
  exact mapv_id t ht.2.1
 rw [← key hx, e, key hy]
theorem Sim.same (S : Sim ρ N σ τ) {x y : Tm} (hx : OkV N x) (hy : OkV N y) : (ren ρ x).same (ren ρ y) = x.same y := by
 rw [Bool.eq_iff_iff, Tm.same_eq, Tm.same_eq]
 exact ⟨S.renInj hx hy, fun e => by rw [e]⟩
theorem testB_ren (ρ : Int → Int) (s : ByteArray) (x : Tm) : testB s (ren ρ x) = testB s x := by
 unfold testB
 rw [ren_k]
 by_cases h : x.k = 1
 · rw [h]; simp
 · have : (ren ρ x).ts.length = x.ts.length := by
    rw [ren_ne ρ h]
    simp only [Tm.ts, List.length_map]
   rw [this]
theorem argT_ren (ρ : Int → Int) {x y : Tm} (hx : x.k = 2) (hy : y.k = 3) : argT (ren ρ x) (ren ρ y) = (argT x y).map (ren ρ) := by
 obtain ⟨k, n, s, ts⟩ := x
 obtain ⟨k', n', s', ts'⟩ := y
 simp only [Tm.k] at hx hy
 subst hx hy
 rw [ren_mk ρ (by decide), ren_mk ρ (by decide)]
 unfold argT
 show (if 1 ≤ n ∧ n ≤ ((ts'.map (ren ρ)).length : Int) then (ts'.map (ren ρ))[(n - 1).toNat]? else none) = Option.map (ren ρ) (if 1 ≤ n ∧ n ≤ (ts'.length : Int) then ts'[(n - 1).toNat]? else none)
 by_cases h : 1 ≤ n ∧ n ≤ (ts'.length : Int)
 · rw [if_pos h, if_pos (by rw [List.length_map]; exact h), List.getElem?_map]
 · rw [if_neg h, if_neg (by rw [List.length_map]; exact h)]; rfl
def SimR (ρ : Int → Int) (N : Int) (x y : Int × Sub × List Int) : Prop := y.1 = x.1 ∧ y.2.2 = x.2.2.map ρ ∧ Sim ρ N x.2.1 y.2.1
theorem SimR.same (S : Sim ρ N σ τ) (c : Int) : SimR ρ N (c, σ, []) (c, τ, []) := ⟨rfl, rfl, S⟩
end
section
variable {ρ : Int → Int} {N : Nat} {σ τ : Sub}
theorem SimR.uni (S : Sim ρ N σ τ) (hg : IsGood σ) (hg' : IsGood τ) (ho : AllS (OkX N) σ) {a b : Tm} (ha : OkX N a) (hb : OkX N b) : SimR ρ N (uniCG σ a b) (uniCG τ (ren ρ a) (ren ρ b)) := by
 obtain ⟨r, σ', tr, h⟩ := uniG_of hg ho ha hb
 obtain ⟨g, hg2⟩ := h.run
 obtain ⟨τ', e, S', _⟩ := S.uniG hg hg' ho.okV ha.1 hb.1 hg2
 unfold uniCG
 rw [h.eq, e]
 exact ⟨rfl, rfl, S'⟩
theorem ren_itm (ρ : Int → Int) (n : Int) : ren ρ (itm n) = itm n := ren_mk ρ (by decide)
theorem Sim.solveG (S : Sim ρ N σ τ) (hg : IsGood σ) (hg' : IsGood τ) (ho : AllS (OkX N) σ) (s : ByteArray) (ks : List Tm) (hv : ∀ x ∈ ks, OkX N x) : SimR ρ N (AW.solveG σ s ks) (AW.solveG τ s (ks.map (ren ρ))) := by
 match ks, hv with
 | [], _ => exact SimR.same S _
 | [x], _ =>
  simp only [List.map_cons, List.map_nil, AW.solveG, testB_ren]
  exact SimR.same S _
 | [x, y], hv =>
  have hx := hv x (by simp)
  have hy := hv y (by simp)
  have hu := SimR.uni S hg hg' ho hx hy
  simp only [List.map_cons, List.map_nil, AW.solveG, cmpC, ev_ren, S.same hx.1 hy.1]
  by_cases h1 : inN cmpNames s = true
  · rw [if_pos h1, if_pos h1]; exact SimR.same S _
  rw [if_neg h1, if_neg h1]
  by_cases h2 : s = ⟨#[61]⟩
  · rw [if_pos h2, if_pos h2]; exact hu
  rw [if_neg h2, if_neg h2]
  by_cases h3 : s = ⟨#[92, 61]⟩
  · rw [if_pos h3, if_pos h3]
    obtain ⟨r, σ', tr, h⟩ := uniG_of hg ho hx hy
    obtain ⟨g, hg2⟩ := h.run
    obtain ⟨τ', e, _, _⟩ := S.uniG hg hg' ho.okV hx.1 hy.1 hg2
    rw [h.eq, e]
    exact SimR.same S _
  rw [if_neg h3, if_neg h3]
  by_cases h4 : s = ⟨#[61, 61]⟩
  · rw [if_pos h4, if_pos h4]; exact SimR.same S _
  rw [if_neg h4, if_neg h4]
  by_cases h5 : y.ev.2 ≠ 0
  · rw [if_pos h5, if_pos h5]; exact SimR.same S _
  rw [if_neg h5, if_neg h5]
  have := SimR.uni S hg hg' ho hx (itm_okX (N := N) (Tm.ev_in y hy.1))
  rw [ren_itm] at this
  exact this
 | [x, y, z], hv =>
  have hy := hv y (by simp)
  have hz := hv z (by simp)
  simp only [List.map_cons, List.map_nil, AW.solveG, argCG, ren_k]
  by_cases h1 : x.k = 1 ∨ y.k = 1
  · rw [if_pos h1, if_pos h1]; exact SimR.same S _
  rw [if_neg h1, if_neg h1]
  have hl : (ren ρ y).ts.length = y.ts.length := by
   rw [ren_ne ρ (t := y) (fun h => h1 (.inr h))]
   simp only [Tm.ts, List.length_map]
  rw [hl]
  by_cases h2 : x.k ≠ 2 ∨ y.k ≠ 3 ∨ y.ts.length = 0
  · rw [if_pos h2, if_pos h2]; exact SimR.same S _
  rw [if_neg h2, if_neg h2]
  have kx : x.k = 2 := Classical.byContradiction fun h => h2 (.inl h)
  have ky : y.k = 3 := Classical.byContradiction fun h => h2 (.inr (.inl h))
  rw [argT_ren ρ kx ky]
  cases hu : argT x y with
  | none => exact SimR.same S _
  | some u => exact SimR.uni S hg hg' ho hz (argT_okX hy (fun h => h1 (.inr h)) hu)
 | a :: b :: c :: d :: l, _ =>
  simp only [List.map_cons, AW.solveG]
  exact SimR.same S _
end
theorem solveG_code (σ : Sub) (s : ByteArray) (ks : List Tm) : 0 ≤ (solveG σ s ks).1 := by
 have hc : ∀ b, 0 ≤ codeB b := fun b => by unfold codeB; split <;> omega
 have hr : ∀ n, 0 ≤ (ranged n).2 := fun n => by unfold ranged; split <;> simp
 have har : ∀ s a b, 0 ≤ (arOp s a b).2 := fun s a b => by
  unfold arOp
  split
  · exact hr _
  split
  · exact hr _
  split
  · exact hr _
  split
  · simp
  split
  · simp
  · simp
 have hb : ∀ (f : Int → Int → Int × Int) (x y : Int × Int), (∀ a b, 0 ≤ (f a b).2) → 0 ≤ x.2 → 0 ≤ y.2 → 0 ≤ (both f x y).2 := fun f x y hf hx hy => by
  unfold both
  split
  · exact hx
  split
  · exact hy
  · exact hf _ _
 have he : ∀ t : Tm, 0 ≤ t.ev.2 := by
  intro t
  induction t using Tm.ind with
  | h k n s ts ih =>
   rw [Tm.ev_mk]
   split
   · simp
   split
   · simp
   split
   · match ts, ih with
     | [], _ => simp [two]
     | [x], _ => simp [two]
     | [x, y], ih => exact hb _ _ _ (har s) (ih x (by simp)) (ih y (by simp))
     | x :: y :: z :: l, _ => simp [two]
   · simp
 match ks with
 | [] => exact hc _
 | [x] => exact hc _
 | [x, y] =>
  simp only [solveG]
  split
  · exact hb _ _ _ (fun _ _ => hc _) (he x) (he y)
  split
  · exact hc _
  split
  · exact hc _
  split
  · exact hc _
  split
  · exact he y
  · exact hc _
 | [x, y, z] =>
  simp only [solveG, argCG]
  split
  · simp
  split
  · simp
  split
  · exact hc _
  · simp
 | a :: b :: c :: d :: l => simp [solveG]
end Go.AW
namespace Go.AW
open Go.Proofs.Tryz
theorem argCG_R (σ : Sub) (x y z : Tm) : argCG σ x y z = if (argR x y).2 = 0 then uniCG σ z (argR x y).1 else ((argR x y).2, σ, []) := by
 unfold argCG argR
 split
 · simp
 split
 · simp
 cases argT x y <;> rfl
def SolveN (N bb : Nat) (st : zy7) (x : Int × Sub × List Int) (r : AV) (st' : zy7) : Prop := r = .int .i64 x.1 ∧ AN N bb st x.2.1 st'
theorem SolveN.same {N bb : Nat} {st : zy7} {σ : Sub} {r : AV} (h : ArrN N st bb σ) (k : Int) (hr : r = .int .i64 k) : SolveN N bb st (k, σ, []) r st := ⟨hr, AN.refl h⟩
theorem cN_l3UnifyG {N : Nat} (hN : N ≤ 1048576) {σ : Sub} (hg : IsGood σ) (ho : AllS (OkX N) σ) (a b : Tm) (ha : OkX N a) (hb : OkX N b) (bb : Nat) (st : zy7) (hS : ArrN N st bb σ) :
 zq7 prog 177 [a.av, b.av, .mslice bb 0 N 4] st (fun r st' => r = .bool (uniG σ a b).1 ∧ AN N bb st (uniG σ a b).2.1 st') := by
 obtain ⟨r, σ', tr', hU⟩ := uniG_of hg ho ha hb
 obtain ⟨g, hrun⟩ := hU.run
 rw [hU.eq]
 exact cN_l3Unify N hN bb g σ a b r σ' tr' hg ho ha hb hrun st hS
abbrev tf_Sg_144 := zi tI_3 (zi zI_3 (zi underlying3 (zi tI_4 (zi zI_4 (zi underlying4 (zi tI_9 (zi zI_9 (zi underlying9 (zi tI_31 (zi zI_31 (zi eI_31 (zi eB_31 (zi eZ_31 (zi underlying31 (zi tI_42 (zi zI_42 (zi fI_42_0 (zi fI_42_1 (zi fI_42_2 (zi fI_42_3 bI_42))))))))))))))))))))
theorem cN_l5Solve {N : Nat} (hN : N ≤ 1048576) {σ : Sub} (hg : IsGood σ) (ho : AllS (OkX N) σ) (n : Int) (s : ByteArray) (ks : List Tm) (hb : isBuiltin s (ks.length : Int) = true) (hne : s ≠ ⟨#[92, 61]⟩) (hv : ∀ x ∈ ks, OkX N x) (bb : Nat) (st : zy7) (hS : ArrN N st bb σ) :
 zq7 prog 144 [(Tm.mk 3 n s ks).av, .mslice bb 0 N 4] st (SolveN N bb st (solveG σ s ks)) := by
 have hcs := bi_cases hb
 have hcpd := fun x y (hxy : ks = [x, y]) => c_l5Compare n s x y (hv x (by simp [hxy])).1 (hv y (by simp [hxy])).1
 have hcarg := fun x y z (hxy : ks = [x, y, z]) => c_l5Arg n s x y z (hv y (by simp [hxy])).1
 have hctest := fun x (hxy : ks = [x]) h => c_l5Test n s x h
 simp only [Tm.av_mk] at hcpd hcarg hctest ⊢
 refine wF [1000000] 2 func144 ntmps144 rfl rfl ?_
 intro _
 simp -implicitDefEqProofs only [List.length_map, evF, ↓evZ, implies_true, seval, tf_Sg_144]
 refine zq4 (fun h => ?_) (fun h => ?_)
 · have hs : s = ⟨#[116, 114, 117, 101]⟩ := by simpa using h
   have hk := kids0 (ts := ks) (by subst hs; simpa [isBuiltin] using hb)
   subst hk
   simp -implicitDefEqProofs only [List.length_map, evF, ↓evZ, implies_true, seval, tf_Sg_144]
   exact SolveN.same hS _ (by simp [codeB, hs])
 have ht : s ≠ ⟨#[116, 114, 117, 101]⟩ := by simpa using h
 simp -implicitDefEqProofs only [List.length_map, evF, ↓evZ, implies_true, seval, tf_Sg_144]
 refine zq4 (fun h => ?_) (fun h => ?_)
 · have hs : s = ⟨#[102, 97, 105, 108]⟩ := by simpa using h
   have hk := kids0 (ts := ks) (by subst hs; simpa [isBuiltin] using hb)
   subst hk
   simp -implicitDefEqProofs only [List.length_map, evF, ↓evZ, implies_true, seval, tf_Sg_144]
   exact SolveN.same hS _ (by simp [codeB, hs])
 have hf : s ≠ ⟨#[102, 97, 105, 108]⟩ := by simpa using h
 simp -implicitDefEqProofs only [List.length_map, evF, ↓evZ, implies_true, seval, tf_Sg_144]
 refine zq4 (fun h => ?_) (fun h => ?_)
 · have hs : s = ⟨#[61]⟩ := by simpa using h
   obtain ⟨x, y, rfl⟩ := kids2 (ts := ks) (by subst hs; simp [isBuiltin] at hb; omega)
   have e : solveG σ s [x, y] = uniCG σ x y := by subst hs; rfl
   rw [e]
   have hat0 : aIndexAddr prog 31 (.slice [x.av, y.av]) (.int .i64 0) = some (.pptr x.av) := ev_at (av := Tm.av) (l := [x, y]) (i := 0) eI_31 rfl (Tm.av_width x)
   have hat1 : aIndexAddr prog 31 (.slice [x.av, y.av]) (.int .i64 1) = some (.pptr y.av) := ev_at (av := Tm.av) (l := [x, y]) (i := 1) eI_31 rfl (Tm.av_width y)
   simp -implicitDefEqProofs only [hat0, hat1, Tm.av_agg, Tm.av_width, evF, ↓evZ, implies_true, seval, tf_Sg_144]
   refine wX [(0, 1), (1, 1), (2, 1), (3, 1), (4, 1), (5, 1), (6, 1), (7, 1), (8, 1), (9, 0), (10, 0), (11, 1)] [0, 1, 2, 3, 4, 5, 6, 7, 8, 11] none0' mixed rfl ext_none ?_
   simp -implicitDefEqProofs only [hat0, hat1, Tm.av_agg, Tm.av_width, evF, ↓evZ, implies_true, seval, tf_Sg_144]
   refine (cN_l3UnifyG hN hg ho x y (hv x (by simp)) (hv y (by simp)) bb _ hS).mono ?_
   rintro _ s2 ⟨rfl, hP⟩
   simp -implicitDefEqProofs only [hat0, hat1, Tm.av_agg, Tm.av_width, evF, ↓evZ, implies_true, seval, tf_Sg_144]
   refine ⟨ext_none, ?_⟩
   refine (c_l5Code _ _).to ?_
   simp -implicitDefEqProofs only [hat0, hat1, Tm.av_agg, Tm.av_width, evF, ↓evZ, implies_true, seval, tf_Sg_144]
   exact ⟨ext_none, rfl, hP⟩
 have he : s ≠ ⟨#[61]⟩ := by simpa using h
 simp -implicitDefEqProofs only [List.length_map, evF, ↓evZ, implies_true, seval, tf_Sg_144]
 refine zq4 (fun h => absurd (by simpa using h) hne) (fun h => ?_)
 simp -implicitDefEqProofs only [List.length_map, evF, ↓evZ, implies_true, seval, tf_Sg_144]
 refine zq4 (fun h => ?_) (fun h => ?_)
 · have hs : s = ⟨#[61, 61]⟩ := by simpa using h
   obtain ⟨x, y, rfl⟩ := kids2 (ts := ks) (by subst hs; simp [isBuiltin] at hb; omega)
   have e : solveG σ s [x, y] = (codeB (x.same y), σ, []) := by subst hs; rfl
   rw [e]
   have hat0 : aIndexAddr prog 31 (.slice [x.av, y.av]) (.int .i64 0) = some (.pptr x.av) := ev_at (av := Tm.av) (l := [x, y]) (i := 0) eI_31 rfl (Tm.av_width x)
   have hat1 : aIndexAddr prog 31 (.slice [x.av, y.av]) (.int .i64 1) = some (.pptr y.av) := ev_at (av := Tm.av) (l := [x, y]) (i := 1) eI_31 rfl (Tm.av_width y)
   simp -implicitDefEqProofs only [hat0, hat1, Tm.av_agg, Tm.av_width, evF, ↓evZ, implies_true, seval, tf_Sg_144]
   refine arun_drawA mixed (by decide +kernel) (by decide +kernel) ?_
   simp -implicitDefEqProofs only [hat0, hat1, Tm.av_agg, Tm.av_width, evF, ↓evZ, implies_true, seval, tf_Sg_144]
   refine zw4 (c_spec_TermSame x y _) ?_
   simp -implicitDefEqProofs only [hat0, hat1, Tm.av_agg, Tm.av_width, evF, ↓evZ, implies_true, seval, tf_Sg_144]
   refine zw4 (c_l5Code _ _) ?_
   simp -implicitDefEqProofs only [hat0, hat1, Tm.av_agg, Tm.av_width, evF, ↓evZ, implies_true, seval, tf_Sg_144]
   exact SolveN.same hS _ rfl
 have hee : s ≠ ⟨#[61, 61]⟩ := by simpa using h
 simp -implicitDefEqProofs only [List.length_map, evF, ↓evZ, implies_true, seval, tf_Sg_144]
 refine zq4 (fun h => ?_) (fun h => ?_)
 · have hs : s = ⟨#[105, 115]⟩ := by simpa using h
   obtain ⟨x, y, rfl⟩ := kids2 (ts := ks) (by subst hs; simp [isBuiltin] at hb; omega)
   have e : solveG σ s [x, y] = if y.ev.2 ≠ 0 then (y.ev.2, σ, []) else uniCG σ x (itm y.ev.1) := by subst hs; rfl
   rw [e]
   have hy := hv y (by simp)
   have hin := itm_okX (N := N) (Tm.ev_in y hy.1)
   have har := fun st => c_l5Arith y st hy.1
   generalize y.ev.1 = a at *
   generalize y.ev.2 = ca at *
   have hat0 : aIndexAddr prog 31 (.slice [x.av, y.av]) (.int .i64 0) = some (.pptr x.av) := ev_at (av := Tm.av) (l := [x, y]) (i := 0) eI_31 rfl (Tm.av_width x)
   have hat1 : aIndexAddr prog 31 (.slice [x.av, y.av]) (.int .i64 1) = some (.pptr y.av) := ev_at (av := Tm.av) (l := [x, y]) (i := 1) eI_31 rfl (Tm.av_width y)
   simp -implicitDefEqProofs only [hat0, hat1, Tm.av_agg, Tm.av_width, evF, ↓evZ, implies_true, seval, tf_Sg_144]
   refine (har _).to ?_
   simp -implicitDefEqProofs only [hat0, hat1, Tm.av_agg, Tm.av_width, evF, ↓evZ, implies_true, seval, tf_Sg_144]
   refine zq4 (fun h4 => ?_) (fun h4 => ?_)
   · simp -implicitDefEqProofs only [hat0, hat1, Tm.av_agg, Tm.av_width, evF, ↓evZ, implies_true, seval, tf_Sg_144]
     have h4' : ca ≠ 0 := by simpa using h4
     rw [if_pos h4']
     exact SolveN.same hS _ rfl
   have h4' : ca = 0 := by simpa using h4
   subst h4'
   rw [if_neg (by simp)]
   simp -implicitDefEqProofs only [hat0, hat1, Tm.av_agg, Tm.av_width, evF, ↓evZ, implies_true, seval, tf_Sg_144]
   refine wX [(0, 1), (1, 1), (2, 1), (3, 1), (4, 1), (6, 1), (5, 0), (7, 0), (8, 0), (9, 1)] [0, 1, 2, 3, 4, 6, 9] none0' mixed rfl ext_none ?_
   simp -implicitDefEqProofs only [hat0, hat1, Tm.av_agg, Tm.av_width, evF, ↓evZ, implies_true, seval, tf_Sg_144]
   refine (c_l1Int a _).to ?_
   rw [← itm_av]
   simp -implicitDefEqProofs only [hat0, hat1, Tm.av_agg, Tm.av_width, evF, ↓evZ, implies_true, seval, tf_Sg_144]
   refine ⟨ext_none, ?_⟩
   refine (cN_l3UnifyG hN hg ho x (itm a) (hv x (by simp)) hin bb _ hS).mono ?_
   rintro _ s2 ⟨rfl, hP⟩
   simp -implicitDefEqProofs only [hat0, hat1, Tm.av_agg, Tm.av_width, evF, ↓evZ, implies_true, seval, tf_Sg_144]
   refine ⟨ext_none, ?_⟩
   refine (c_l5Code _ _).to ?_
   simp -implicitDefEqProofs only [hat0, hat1, Tm.av_agg, Tm.av_width, evF, ↓evZ, implies_true, seval, tf_Sg_144]
   exact ⟨ext_none, rfl, hP⟩
 have his : s ≠ ⟨#[105, 115]⟩ := by simpa using h
 simp -implicitDefEqProofs only [List.length_map, evF, ↓evZ, implies_true, seval, tf_Sg_144]
 refine zq4 (fun h => ?_) (fun h => ?_)
 · have hs : s = ⟨#[97, 114, 103]⟩ := by simpa using h
   obtain ⟨x, y, z, rfl⟩ := kids3 (ts := ks) (by subst hs; simp [isBuiltin] at hb; omega)
   have e : solveG σ s [x, y, z] = argCG σ x y z := rfl
   rw [e, argCG_R]
   have hz := hv z (by simp)
   have hy := hv y (by simp)
   have hga := hcarg x y z rfl
   have hgv : (argR x y).2 = 0 → OkX N (argR x y).1 := fun h => by
    unfold argR at h ⊢
    split at h
    · cases h
    rename_i h1
    rw [if_neg h1]
    split at h
    · cases h
    rename_i h2
    rw [if_neg h2]
    cases hu : argT x y with
    | none => rw [hu] at h; cases h
    | some u => exact okX_kids N y (fun h => h1 (.inr h)) hy u (argT_mem hu)
   generalize (argR x y).1 = u at *
   generalize (argR x y).2 = cu at *
   have hat2 : aIndexAddr prog 31 (.slice [x.av, y.av, z.av]) (.int .i64 2) = some (.pptr z.av) := ev_at (av := Tm.av) (l := [x, y, z]) (i := 2) eI_31 rfl (Tm.av_width z)
   simp only [List.map_cons, List.map_nil] at hga
   simp -implicitDefEqProofs only [hat2, Tm.av_agg, Tm.av_width, Tm.av_junk, Tm.av_store, evF, ↓evZ, implies_true, seval, tf_Sg_144]
   refine (hga _).to ?_
   simp -implicitDefEqProofs only [hat2, Tm.av_agg, Tm.av_width, Tm.av_junk, Tm.av_store, evF, ↓evZ, implies_true, seval, tf_Sg_144]
   refine zq4 (fun h4 => ?_) (fun h4 => ?_)
   · simp -implicitDefEqProofs only [hat2, Tm.av_agg, Tm.av_width, Tm.av_junk, Tm.av_store, evF, ↓evZ, implies_true, seval, tf_Sg_144]
     have h4' : cu ≠ 0 := by simpa using h4
     rw [if_neg h4']
     exact SolveN.same hS _ rfl
   have h4' : cu = 0 := by simpa using h4
   subst h4'
   rw [if_pos rfl]
   simp -implicitDefEqProofs only [hat2, Tm.av_agg, Tm.av_width, Tm.av_junk, Tm.av_store, evF, ↓evZ, implies_true, seval, tf_Sg_144]
   refine wX [(0, 1), (1, 1), (2, 1), (3, 1), (4, 1), (5, 1), (6, 0), (7, 0), (8, 1)] [0, 1, 2, 3, 4, 5, 8] none0' mixed rfl ext_none ?_
   simp -implicitDefEqProofs only [hat2, Tm.av_agg, Tm.av_width, Tm.av_junk, Tm.av_store, evF, ↓evZ, implies_true, seval, tf_Sg_144]
   refine (cN_l3UnifyG hN hg ho z u hz (hgv rfl) bb _ hS).mono ?_
   rintro _ s2 ⟨rfl, hP⟩
   simp -implicitDefEqProofs only [hat2, Tm.av_agg, Tm.av_width, Tm.av_junk, Tm.av_store, evF, ↓evZ, implies_true, seval, tf_Sg_144]
   refine ⟨ext_none, ?_⟩
   refine (c_l5Code _ _).to ?_
   simp -implicitDefEqProofs only [hat2, Tm.av_agg, Tm.av_width, Tm.av_junk, Tm.av_store, evF, ↓evZ, implies_true, seval, tf_Sg_144]
   exact ⟨ext_none, rfl, hP⟩
 have harg : s ≠ ⟨#[97, 114, 103]⟩ := by simpa using h
 simp -implicitDefEqProofs only [List.length_map, evF, ↓evZ, implies_true, seval, tf_Sg_144]
 refine (c_l5Compares s _).to ?_
 simp -implicitDefEqProofs only [List.length_map, evF, ↓evZ, implies_true, seval, tf_Sg_144]
 refine zq4 (fun h => ?_) (fun h => ?_)
 · have hlen : ks.length = 2 := by
    rcases hcs with ⟨h2, h3⟩ | ⟨h2, h3⟩ | ⟨h2, h3⟩ | ⟨h2, h3⟩
    · exact h2
    · simp [ht, hf] at h3
    · rcases h3 with rfl | rfl | rfl | rfl <;> exact absurd h (by decide)
    · exact absurd h3 harg
   obtain ⟨x, y, rfl⟩ := kids2 hlen
   have e : solveG σ s [x, y] = (cmpC s x y, σ, []) := by simp only [solveG]; rw [if_pos h]
   rw [e]
   have hc := hcpd x y rfl
   simp only [List.map_cons, List.map_nil] at hc
   simp -implicitDefEqProofs only [List.length_map, evF, ↓evZ, implies_true, seval, tf_Sg_144]
   refine (hc _).to ?_
   simp -implicitDefEqProofs only [List.length_map, evF, ↓evZ, implies_true, seval, tf_Sg_144]
   exact SolveN.same hS _ rfl
 · have hlen : ks.length = 1 ∧ (s = ⟨#[118, 97, 114]⟩ ∨ s = ⟨#[110, 111, 110, 118, 97, 114]⟩ ∨ s = ⟨#[97, 116, 111, 109]⟩ ∨ s = ⟨#[105, 110, 116]⟩) := by
    rcases hcs with ⟨h2, h3⟩ | ⟨h2, h3⟩ | ⟨h2, h3⟩ | ⟨h2, h3⟩
    · simp [h, he, hne, hee, his] at h3
    · simp [ht, hf] at h3
    · exact ⟨h2, h3⟩
    · exact absurd h3 harg
   obtain ⟨x, rfl⟩ := kids1 hlen.1
   have e : solveG σ s [x] = (codeB (testB s x), σ, []) := rfl
   rw [e]
   have hc := hctest x rfl hlen.2
   simp only [List.map_cons, List.map_nil] at hc
   simp -implicitDefEqProofs only [List.length_map, evF, ↓evZ, implies_true, seval, tf_Sg_144]
   refine (hc _).to ?_
   simp -implicitDefEqProofs only [List.length_map, evF, ↓evZ, implies_true, seval, tf_Sg_144]
   exact SolveN.same hS _ rfl
theorem arrN_fits (N : Nat) (σ : Sub) : appFit 4 (arrN N σ) := by
 intro e h
 simp only [arrN, List.mem_map] at h
 obtain ⟨i, _, rfl⟩ := h
 refine ⟨cellOf_width _, ?_⟩
 cases σ (i : Int) with
 | none => rfl
 | some u => exact Tm.av_store u
theorem arrN_junk (N : Nat) (σ : Sub) : ∀ e ∈ arrN N σ, e.isJunk = false := by
 intro e h
 simp only [arrN, List.mem_map] at h
 obtain ⟨i, _, rfl⟩ := h
 cases σ (i : Int) with
 | none => rfl
 | some u => exact Tm.av_junk u
theorem arrN_len (N : Nat) (σ : Sub) : (arrN N σ).length = N := by simp [arrN]
theorem app_arrN {N : Nat} (h0 : 0 < N) (hN : N ≤ 1048576) (σ : Sub) {st : zy7} {K : AV → zy7 → Prop} (hK : ∀ b, st b = none → ArrN N (st.upd b (.cells ((arrN N σ).flatMap AV.cells))) b σ → K (.mslice b 0 N 4) (st.upd b (.cells ((arrN N σ).flatMap AV.cells)))) :
 aAppend prog 31 st (.fslice []) (.slice (arrN N σ)) K := by
 have hl := arrN_len N σ
 refine acc_append (P := prog) (st := st) (b := 0) (l := []) (xs := arrN N σ) (x := .slice (arrN N σ)) (K := K) eI_31 eB_31 eZ_31 rfl rfl (arrN_fits N σ) (by simp) (by simp) (by simp only [List.length_nil, hl]; omega) (by simp only [List.length_nil, hl]; omega) (fun b hb => ?_)
 have hne : [] ++ arrN N σ ≠ [] := by
  rw [List.nil_append]
  intro e
  rw [e] at hl
  simp at hl
  omega
 rw [accV_cons hne, accS_cons hne, List.nil_append, hl]
 exact hK b (hb hne) (zy7.upd_same _ _ _)
theorem cN_l5SolveNe {N : Nat} (h0 : 0 < N) (hN : N ≤ 1048576) {σ : Sub} (hg : IsGood σ) (ho : AllS (OkX N) σ) (n : Int) (s : ByteArray) (x y : Tm) (hs : s = ⟨#[92, 61]⟩) (hx : OkX N x) (hy : OkX N y) (st : zy7) :
 zq7 prog 144 [(Tm.mk 3 n s [x, y]).av, .slice (arrN N σ)] st (fun r st' => r = .int .i64 (codeB (!(uniG σ x y).1)) ∧ st' = st) := by
 have ht : s ≠ ⟨#[116, 114, 117, 101]⟩ := by subst hs; decide
 have hf : s ≠ ⟨#[102, 97, 105, 108]⟩ := by subst hs; decide
 have he : s ≠ ⟨#[61]⟩ := by subst hs; decide
 refine zq7.done ?_
 simp only [Tm.av_mk 3, List.map_cons, List.map_nil]
 refine wF [1000000] 2 func144 ntmps144 rfl rfl ?_
 intro _
 have hat0 : aIndexAddr prog 31 (.slice [x.av, y.av]) (.int .i64 0) = some (.pptr x.av) := ev_at (av := Tm.av) (l := [x, y]) (i := 0) eI_31 rfl (Tm.av_width x)
 have hat1 : aIndexAddr prog 31 (.slice [x.av, y.av]) (.int .i64 1) = some (.pptr y.av) := ev_at (av := Tm.av) (l := [x, y]) (i := 1) eI_31 rfl (Tm.av_width y)
 simp -implicitDefEqProofs only [hat0, hat1, Tm.av_agg, Tm.av_width, evF, ↓evZ, implies_true, seval, tf_Sg_144]
 refine zq4 (fun h => absurd (by simpa using h) ht) (fun h => ?_)
 simp -implicitDefEqProofs only [hat0, hat1, Tm.av_agg, Tm.av_width, evF, ↓evZ, implies_true, seval, tf_Sg_144]
 refine zq4 (fun h => absurd (by simpa using h) hf) (fun h => ?_)
 simp -implicitDefEqProofs only [hat0, hat1, Tm.av_agg, Tm.av_width, evF, ↓evZ, implies_true, seval, tf_Sg_144]
 refine zq4 (fun h => absurd (by simpa using h) he) (fun h => ?_)
 simp -implicitDefEqProofs only [hat0, hat1, Tm.av_agg, Tm.av_width, evF, ↓evZ, implies_true, seval, tf_Sg_144]
 refine zq4 (fun h => ?_) (fun h => absurd hs (by simpa using h))
 simp -implicitDefEqProofs only [hat0, hat1, Tm.av_agg, Tm.av_width, evF, ↓evZ, implies_true, seval, tf_Sg_144]
 refine wX [(0, 1), (1, 1), (2, 1), (3, 1), (4, 1), (5, 1), (6, 1), (7, 1), (8, 1), (9, 1), (10, 0), (11, 0), (12, 1), (13, 0), (14, 1)] [0, 1, 2, 3, 4, 5, 6, 7, 8, 9, 12, 14] none0' mixed rfl ext_none ?_
 simp -implicitDefEqProofs only [hat0, hat1, Tm.av_agg, Tm.av_width, evF, ↓evZ, implies_true, seval, tf_Sg_144]
 refine app_arrN h0 hN σ fun b hb hA0 => ?_
 have hD0 : Drops (st.upd b (.cells ((arrN N σ).flatMap AV.cells))) st := (Drops.refl _).upd hb
 generalize st.upd b (.cells ((arrN N σ).flatMap AV.cells)) = s0 at *
 simp -implicitDefEqProofs only [hat0, hat1, Tm.av_agg, Tm.av_width, evF, ↓evZ, implies_true, seval, tf_Sg_144]
 refine ⟨ext_none, ?_⟩
 refine (cN_l3UnifyG hN hg ho x y hx hy b _ hA0).mono ?_
 rintro _ s2 ⟨rfl, hA, hk⟩
 simp -implicitDefEqProofs only [hat0, hat1, Tm.av_agg, Tm.av_width, evF, ↓evZ, implies_true, seval, tf_Sg_144]
 refine ⟨ext_none, ?_⟩
 refine (c_l5Code _ _).to ?_
 simp -implicitDefEqProofs only [hat0, hat1, Tm.av_agg, Tm.av_width, evF, ↓evZ, implies_true, seval, tf_Sg_144]
 refine ⟨ext_none, rfl, fun q => ?_⟩
 have key : ∀ o, st q = some o → s2 q = some o := fun o h => hk q o ((hD0 q).2 o h) (by rintro rfl; rw [hb] at h; cases h)
 refine ⟨fun h => ?_, key⟩
 cases hq : st q with
 | none => rfl
 | some o => rw [key o hq] at h; cases h
theorem cN_l5Solve2 {N : Nat} (h0 : 0 < N) (hN : N ≤ 1048576) {σ : Sub} (hg : IsGood σ) (ho : AllS (OkX N) σ) (n : Int) (s : ByteArray) (ks : List Tm) (hb : isBuiltin s (ks.length : Int) = true) (hv : ∀ x ∈ ks, OkX N x) (bb : Nat) (st : zy7) (hS : ArrN N st bb σ) :
 zq7 prog 144 [(Tm.mk 3 n s ks).av, .mslice bb 0 N 4] st (SolveN N bb st (solveG σ s ks)) := by
 by_cases hs : s = ⟨#[92, 61]⟩
 · obtain ⟨x, y, rfl⟩ := kids2 (ts := ks) (by subst hs; simp [isBuiltin] at hb; omega)
   have e : solveG σ s [x, y] = (codeB (!(uniG σ x y).1), σ, []) := by subst hs; rfl
   rw [e]
   have hc := cN_l5SolveNe h0 hN hg ho n s x y hs (hv x (by simp)) (hv y (by simp)) none0'
   refine (zq7.frame0 (args' := [(Tm.mk 3 n s [x, y]).av, .mslice bb 0 N 4]) (st := st) rfl hc fun h vs S V => ?_).mono ?_
   · simp only [VRelL] at V ⊢
     obtain ⟨v, vs', rfl, V1, w, ws', rfl, V2, rfl⟩ := V
     refine ⟨v, [w], rfl, V1.mono ((Drops.none0' st).step h), w, [], rfl, ?_, rfl⟩
     have h2 := V2.fz S hS (arrN_junk N σ) ⟨4, arrN_widths N σ⟩
     have h3 : (AV.mslice bb 0 N 4).fz bb (arrN N σ) = .slice (arrN N σ) := by simp [AV.fz, arrN_len]
     rw [h3] at h2
     exact h2.mono ((Drops.none0' (st.erase bb)).step h)
   · rintro _ _ ⟨rfl, rfl⟩
     exact SolveN.same hS _ rfl
 · exact cN_l5Solve hN hg ho n s ks hb hs hv bb st hS
abbrev tf_Q3_199 := zi tI_3 (zi zI_3 (zi underlying3 (zi tI_31 (zi zI_31 (zi eI_31 (zi eB_31 (zi eZ_31 (zi underlying31 (zi tI_42 (zi zI_42 (zi fI_42_0 (zi fI_42_1 (zi fI_42_2 (zi fI_42_3 bI_42))))))))))))))
theorem cI_l3Walk {N : Nat} {σ : Sub} (hok : AllS (OkV N) σ) {f : Nat} {t u : Tm} (hw : WkN σ f t u) (ht : OkV N t) (st : zy7) : zq7 prog 199 [t.av, .slice (arrN N σ)] st (fun r st' => r = u.av ∧ st' = st) := by
 refine zq7.done ?_
 refine wF [1000000, 2] 2 func199 ntmps199 rfl rfl ?_
 intro _
 have hlen : (arrN N σ).length = N := by simp [arrN]
 simp -implicitDefEqProofs only [zy4, hlen, evF, ↓evZ, implies_true, seval, tf_Q3_199]
 intro b2 h2 b4 h4
 have hne : b4 ≠ b2 := by rintro rfl; rw [zy7.upd_same] at h4; cases h4
 have hn4 : st b4 = none := by rw [zy7.upd_ne st _ hne] at h4; exact h4
 refine zw5 (σ := Nat × Tm) [1000000, 2] [1, 2, 4] (fun p => WkN σ p.1 p.2 u ∧ OkV N p.2) (fun p => []) (fun p => (st.upd b2 (.cells p.2.av.cells)).upd b4 (.cells [.int .i64 0, .int .i64 0, .str ⟨#[]⟩, .fslice []])) (fun p => p.1) (by decide +kernel) ⟨(f, t), ⟨hw, ht⟩, zx7.mk (by simp -implicitDefEqProofs only [zy4, hlen, evF, ↓evZ, implies_true, seval, tf_Q3_199])⟩ ?_
 rintro ⟨g, t⟩ ⟨hw, ht⟩
 obtain ⟨k, n, s, ts⟩ := t
 simp only at hw ht
 simp only [Tm.av_mk]
 have hend : k ≠ 1 ∨ σ n = none → u = .mk k n s ts := fun h => by
  cases hw with
  | stop _ => rfl
  | go h1 h2 _ =>
   simp only [Tm.k] at h1
   rcases h with h | h
   · exact absurd h1 h
   · rw [show σ n = some _ from h2] at h; cases h
 simp -implicitDefEqProofs only [zy4, hne, hne.symm, hlen, evF, ↓evZ, implies_true, seval, tf_Q3_199]
 refine zx4 (fun h => ?_) (fun h => ?_)
 case refine_2 =>
  simp -implicitDefEqProofs only [h, zy4, hne, hne.symm, hlen, evF, ↓evZ, implies_true, seval, tf_Q3_199]
  simp only [Bool.not_true, decide_eq_false_iff_not] at h
  rw [hend (.inl h), ← Tm.av_mk]
  exact ⟨Tm.soft _, ((Drops.refl _).upd h2).upd hn4⟩
 simp only [decide_eq_true_eq] at h
 subst h
 obtain ⟨hn0, hn1, _⟩ := ht.var
 obtain ⟨i, rfl⟩ : ∃ i : Nat, n = i := ⟨n.toNat, by omega⟩
 have hi : i < N := by omega
 have hi' : decide ((i : Int) < (N : Int)) = true := by simp; omega
 simp -implicitDefEqProofs only [decide_true, hi', beq_self_eq_true, zy4, hne, hne.symm, hlen, evF, ↓evZ, implies_true, seval, tf_Q3_199]
 have hat : aIndexAddr prog 31 (.slice (arrN N σ)) (.int .i64 (i : Int)) = some (.pptr (cellOf (σ (i : Int)))) := ev_at (av := fun i : Nat => cellOf (σ (i : Int))) eI_31 (List.getElem?_range hi) (cellOf_width _)
 cases hw with
 | stop hs =>
  rw [show σ (i : Int) = none from hs rfl] at hat
  simp only [cellOf] at hat
  simp -implicitDefEqProofs only [hat, decide_true, zy4, hne, hne.symm, hlen, evF, ↓evZ, implies_true, seval, tf_Q3_199]
  exact ⟨by rw [← Tm.av_mk, Tm.soft], ((Drops.refl _).upd h2).upd hn4⟩
 | go h1 h2' h3 =>
  simp only [Tm.n] at h2'
  have ho := hok _ _ h2'
  rename_i g' u'
  obtain ⟨k', n', s', ts'⟩ := u'
  have hk' : ¬ k' = 0 := by have := ho.kind.1; omega
  rw [h2'] at hat
  simp only [cellOf, Tm.av_mk] at hat
  simp -implicitDefEqProofs only [hat, hk', decide_false, zy4, hne, hne.symm, hlen, evF, ↓evZ, implies_true, seval, tf_Q3_199]
  rw [zy7.upd_mid hne, zy7.upd_comm _ _ _ hne]
  refine ⟨(g', .mk k' n' s' ts'), Nat.lt_succ_self _, ⟨h3, ho⟩, ?_⟩
  simp only [Tm.av_mk]
  exact zx7.mk (by simp -implicitDefEqProofs only [zy4, hne, hne.symm, hlen, evF, ↓evZ, implies_true, seval, tf_Q3_199])
abbrev tf_Q3_173 := zi tI_3 (zi zI_3 (zi underlying3 (zi tI_9 (zi zI_9 (zi underlying9 (zi tI_31 (zi zI_31 (zi eI_31 (zi eB_31 (zi eZ_31 (zi underlying31 (zi tI_42 (zi zI_42 (zi fI_42_0 (zi fI_42_1 (zi fI_42_2 (zi fI_42_3 bI_42)))))))))))))))))
theorem cI_l3Full {N : Nat} {σ : Sub} {R : Int → Tm} {rk : Int → Nat} {B : Nat} (G : Good σ R rk B) (hok : AllS (OkX N) σ) :
 ∀ (room : Nat) (t : Tm) (st : zy7), room ≤ 120 → OkX N t → zq7 prog 173 [t.av, .slice (arrN N σ), .int .i64 (room : Int)] st (Full (t.mapv R) room st)
 | room, t, st, hr, ht => by
  have IH := fun (room' : Nat) (hlt : room' < room) (x : Tm) st => cI_l3Full G hok room' x st
  obtain ⟨f, hw⟩ := G.wk t
  generalize wk σ t = u at *
  have hokA : AllS (OkV N) σ := fun n u hu => (hok n u hu).1
  have hsu := hw.all (p := OkX N) hok ht
  have hcw := fun st => cI_l3Walk hokA hw ht.1 st
  obtain ⟨k, n, s, ts⟩ := u
  have hv := good_walked G hw (hsu.1.2.1)
  rw [hv]
  obtain ⟨hlen, hsms⟩ := Tm.small_mk (hsu.1.small)
  have hle4 := hsu.1.kind.2
  have hkn := hsu.1.all.2
  have hkk : ∀ x ∈ ts, OkX N x := fun x hx => by
   refine ⟨hkn x hx, ?_⟩
   have := hsu.2
   rw [Tm.nodes_mk] at this
   have := sumL_mem (f := Tm.nodes) hx
   omega
  refine zq7.dropS (zq7.fin ?_)
  refine wF [1000000, 3, 8] 3 func173 ntmps173 rfl rfl ?_
  intro _
  simp -implicitDefEqProofs only [zy4, evF, ↓evZ, implies_true, seval, tf_Q3_173]
  intro b3 h3 b6 h6
  have h63 : b6 ≠ b3 := by rintro rfl; rw [zy7.upd_same] at h6; cases h6
  have hn6 : st b6 = none := by rw [zy7.upd_ne st _ h63] at h6; exact h6
  have hwr : ∀ z : Int, -1 ≤ z → z ≤ 200 → IntKind.i64.wrap z = z := fun z h1 h2 => wrap64 (by omega) (by omega)
  have hw1 := hwr ((room : Int) - 1) (by omega) (by omega)
  refine zq4 (fun h => ?_) (fun h => ?_)
  · simp only [decide_eq_true_eq] at h
    obtain rfl : room = 0 := by omega
    simp -implicitDefEqProofs only [zy4, h63, h63.symm, hw1, evF, ↓evZ, implies_true, seval, tf_Q3_173]
    refine ⟨0, [], _, rfl, by simp, by simp, ⟨4, by simp⟩, st, (fun x => by by_cases e3 : x = b3 <;> by_cases e6 : x = b6 <;> simp_all [zy7.upd]), rfl, Tm.zero, -1, ?_, Int.le_refl _, ?_⟩
    · simp only [Tm.zero, Tm.av_mk, fin_agg, fin_tup, fin_int, fin_bool, fin_str, fin_slice, fin_fslice, fin_pptr, fin_ptr, fin_func, fin_map, fin_undef, fin_accV, tm_fin, List.map_cons, List.map_nil]
    · rw [if_neg (by rw [Tm.nodes_mk]; omega)]; decide
  simp only [decide_eq_false_iff_not] at h
  simp -implicitDefEqProofs only [zy4, h63, h63.symm, hw1, evF, ↓evZ, implies_true, seval, tf_Q3_173]
  refine (hcw _).to ?_
  simp only [Tm.av_mk]
  simp -implicitDefEqProofs only [zy4, h63, h63.symm, hw1, evF, ↓evZ, implies_true, seval, tf_Q3_173]
  intro b8 h8
  have h83 : b8 ≠ b3 := by rintro rfl; simp [zy7.upd, h63.symm] at h8
  have h86 : b8 ≠ b6 := by rintro rfl; simp [zy7.upd, h63] at h8
  have hn8 : st b8 = none := by rw [zy7.upd_ne _ _ h83, zy7.upd_ne _ _ h86, zy7.upd_ne _ _ h83] at h8; exact h8
  rw [zy7.upd_mid h63]
  have hW6 : ((st.upd b6 (.cells [.int .i64 0, .int .i64 0, .str ⟨#[]⟩, .fslice []])).upd b3 (.cells [.int .i64 k, .int .i64 n, .str s, .slice (ts.map Tm.av)])) b6 = some (.cells [.int .i64 0, .int .i64 0, .str ⟨#[]⟩, .fslice []]) := by rw [zy7.upd_ne _ _ h63, zy7.upd_same]
  have hW3 : ((st.upd b6 (.cells [.int .i64 0, .int .i64 0, .str ⟨#[]⟩, .fslice []])).upd b3 (.cells [.int .i64 k, .int .i64 n, .str s, .slice (ts.map Tm.av)])) b3 = some (.cells [.int .i64 k, .int .i64 n, .str s, .slice (ts.map Tm.av)]) := zy7.upd_same _ _ _
  have hWd : ∀ Y Z, Drops ((((st.upd b6 (.cells [.int .i64 0, .int .i64 0, .str ⟨#[]⟩, .fslice []])).upd b3 (.cells [.int .i64 k, .int .i64 n, .str s, .slice (ts.map Tm.av)])).upd b8 Z).upd b6 Y) st := fun Y Z x => by
   by_cases e3 : x = b3 <;> by_cases e6 : x = b6 <;> by_cases e8 : x = b8 <;> simp_all [zy7.upd]
  generalize ((st.upd b6 (.cells [.int .i64 0, .int .i64 0, .str ⟨#[]⟩, .fslice []])).upd b3 (.cells [.int .i64 k, .int .i64 n, .str s, .slice (ts.map Tm.av)])) = W at *
  have hsum : (Tm.mk k n s (ts.map (Tm.mapv R))).nodes = 1 + sumL Tm.nodes (ts.map (Tm.mapv R)) := Tm.nodes_mk _ _ _ _
  refine zy5 (σ := Nat × List Tm × Int) [1000000, 3, 8] [1, 3, 6, 7, 8] ts
   (fun i p => (p.2.1.map Tm.av ≠ [] → (W.upd b8 (.cells ([.int .i64 k, .int .i64 n, .str s] ++ [accV 4 p.1 (p.2.1.map Tm.av)]))) p.1 = none) ∧ p.2.1.length = i ∧ -1 ≤ p.2.2 ∧
    (0 ≤ p.2.2 → p.2.1 = (ts.take i).map (Tm.mapv R) ∧ p.2.2 = (room : Int) - 1 - sumL Tm.nodes p.2.1) ∧ (p.2.2 < 0 → room < 1 + sumL Tm.nodes (ts.map (Tm.mapv R))))
   (fun i p => [(9, .int .i64 p.2.2), (10, .int .i64 i)])
   (fun i p => kidS W b8 p.1 [.int .i64 k, .int .i64 n, .str s] (p.2.1.map Tm.av)) (by decide +kernel)
   ⟨(0, [], (room : Int) - 1), ⟨fun h => absurd rfl h, rfl, by simp only; omega, fun _ => ⟨by simp, by simp [sumL]⟩, fun h => by simp only at h; omega⟩, zx7.mk (by simp -implicitDefEqProofs only [zy4, h63, h63.symm, h83, h83.symm, h86, h86.symm, hw1, List.length_map, evF, ↓evZ, implies_true, seval, tf_Q3_173])⟩ (fun i x p hx hlt hlt' hdr' hinv => ?_) (fun p hge hinv => ?_)
  · obtain ⟨b, acc, left⟩ := p
    obtain ⟨i1, i2, i3, i4, i5⟩ := hinv
    simp only at i1 i2 i3 i4 i5
    have h3o := kidS_ne i1 (x := b3) (by rw [hW3]; simp) h83.symm
    rw [hW3] at h3o
    simp -implicitDefEqProofs only [hlt', decide_true, beq_self_eq_true, zy4, h63, h63.symm, h83, h83.symm, h86, h86.symm, hw1, List.length_map, h3o, evF, ↓evZ, implies_true, seval, tf_Q3_173]
    refine zq4 (fun h9 => ?_) (fun h9 => ?_)
    case refine_2 =>
     simp only [decide_eq_false_iff_not] at h9
     have hbo := kidS_c i1
     have h6o := kidS_ne i1 (x := b6) (by rw [hW6]; simp) h86.symm
     rw [hW6] at h6o
     simp -implicitDefEqProofs only [zy4, hbo, h6o, accV_store, evF, ↓evZ, implies_true, seval, tf_Q3_173]
     obtain ⟨g5, g6⟩ := kidS_upd (o := .cells [.int .i64 k, .int .i64 n, .str s, accV 4 b (acc.map Tm.av)]) i1 (show W b6 ≠ none by rw [hW6]; simp) h86.symm
     refine ⟨b, _, _, g5, g6, tm_junk _, ⟨4, tm_widths _⟩, st, hWd _ _, rfl, .mk k n s acc, left, ?_, i3, ?_⟩
     · simp only [fin_tup, fin_agg, List.map_cons, List.map_nil, fin_int, fin_str, accV_fin, Tm.av_mk]
     · rw [hsum]
       skip
       rw [if_neg (by have := i5 (by omega); omega)]
       omega
    simp only [decide_eq_true_eq] at h9
    obtain ⟨e1, e2⟩ := i4 h9
    have hmem := List.mem_of_getElem? hx
    have hsl := sumL_take_le' Tm.nodes (ts.map (Tm.mapv R)) (i + 1)
    rw [← List.map_take, List.take_add_one, hx] at hsl
    simp only [Option.toList_some, List.map_append, List.map_cons, List.map_nil, sumL_append, sumL, ← e1] at hsl
    obtain ⟨room', rfl⟩ : ∃ r : Nat, left = r := ⟨left.toNat, by omega⟩
    have hlen' : (acc.map Tm.av).length = i := by rw [List.length_map, i2]
    have hw := wrap64 (n := (i : Int) + 1) (by omega) (by omega)
    have hbo := kidS_c i1
    simp -implicitDefEqProofs only [zy4, hdr', List.length_map, h3o, ev_at (av := Tm.av) eI_31 hx (Tm.av_width x), Tm.av_agg, Tm.av_width, Tm.av_store, Tm.av_junk, hbo, accV_agg, accV_width, evF, ↓evZ, implies_true, seval, tf_Q3_173]
    refine (IH room' (by omega) x _ (by omega) (hkk x hmem)).mono ?_
    rintro _ _ ⟨rfl, y, left', rfl, hl1, hl2⟩
    simp -implicitDefEqProofs only [zy4, hdr', List.length_map, h3o, ev_at (av := Tm.av) eI_31 hx (Tm.av_width x), Tm.av_agg, Tm.av_width, Tm.av_store, Tm.av_junk, hbo, accV_agg, accV_width, evF, ↓evZ, implies_true, seval, tf_Q3_173]
    refine acc_append eI_31 eB_31 eZ_31 rfl rfl (by intro e he; simp only [List.mem_cons, List.not_mem_nil, or_false] at he; subst he; exact ⟨Tm.av_width _, Tm.av_store _⟩) (tm_widths _) i1 (by simp only [hlen', List.length_cons, List.length_nil]; omega) (by simp only [hlen', List.length_cons, List.length_nil]; omega) (fun b' hb' => ?_)
    rw [show acc.map Tm.av ++ [y.av] = (acc ++ [y]).map Tm.av by simp] at hb' ⊢
    obtain ⟨g1, g2, g3⟩ := kidS_set hb'
    simp only [List.cons_append, List.nil_append] at g1 g3
    simp -implicitDefEqProofs only [g3, accV_cells, accV_store, Nat.le_refl, g1, hw, zy4, hdr', List.length_map, h3o, ev_at (av := Tm.av) eI_31 hx (Tm.av_width x), Tm.av_agg, Tm.av_width, Tm.av_store, Tm.av_junk, hbo, accV_agg, accV_width, evF, ↓evZ, implies_true, seval, tf_Q3_173]
    refine ⟨(b', acc ++ [y], left'), ⟨g2, by simp [i2], hl1, fun h => ?_, fun h => ?_⟩, zx7.mk (by simp -implicitDefEqProofs only [zy4, hdr', List.length_map, h3o, ev_at (av := Tm.av) eI_31 hx (Tm.av_width x), Tm.av_agg, Tm.av_width, Tm.av_store, Tm.av_junk, hbo, accV_agg, accV_width, evF, ↓evZ, implies_true, seval, tf_Q3_173])⟩
    · simp only at h
      split at hl2
      · obtain ⟨rfl, hl3⟩ := hl2
        refine ⟨by rw [List.take_add_one, hx]; simp [e1], ?_⟩
        simp only [sumL_append, sumL]
        omega
      · omega
    · simp only at h
      split at hl2
      · omega
      · omega
  · obtain ⟨b, acc, left⟩ := p
    obtain ⟨i1, i2, i3, i4, i5⟩ := hinv
    simp only at i1 i2 i3 i4 i5
    rw [List.take_length] at i4
    have h3o := kidS_ne i1 (x := b3) (by rw [hW3]; simp) h83.symm
    rw [hW3] at h3o
    simp -implicitDefEqProofs only [hge, zy4, h63, h63.symm, h83, h83.symm, h86, h86.symm, hw1, List.length_map, h3o, evF, ↓evZ, implies_true, seval, tf_Q3_173]
    have hbo := kidS_c i1
    have h6o := kidS_ne i1 (x := b6) (by rw [hW6]; simp) h86.symm
    rw [hW6] at h6o
    simp -implicitDefEqProofs only [zy4, hbo, h6o, accV_store, evF, ↓evZ, implies_true, seval, tf_Q3_173]
    obtain ⟨g5, g6⟩ := kidS_upd (o := .cells [.int .i64 k, .int .i64 n, .str s, accV 4 b (acc.map Tm.av)]) i1 (show W b6 ≠ none by rw [hW6]; simp) h86.symm
    refine ⟨b, _, _, g5, g6, tm_junk _, ⟨4, tm_widths _⟩, st, hWd _ _, rfl, .mk k n s acc, left, ?_, i3, ?_⟩
    · simp only [fin_tup, fin_agg, List.map_cons, List.map_nil, fin_int, fin_str, accV_fin, Tm.av_mk]
    · rw [hsum]
      skip
      rcases Int.lt_or_le left 0 with h9 | h9
      · rw [if_neg (by have := i5 h9; omega)]; exact h9
      · obtain ⟨e1, e2⟩ := i4 h9
        rw [← e1] at i5 ⊢
        rw [if_pos (by omega)]
        exact ⟨rfl, by omega⟩
termination_by room => room
decreasing_by exact hlt
end Go.AW
namespace Go.AW
abbrev Cl := Tm × List Tm
def clAv : Cl → AV
 | (.mk k n s ts, b) => .agg [.int .i64 k, .int .i64 n, .str s, .slice (ts.map Tm.av), .slice (b.map Tm.av)]
theorem clAv_mk (k n : Int) (s : ByteArray) (ts b : List Tm) : clAv (.mk k n s ts, b) = .agg [.int .i64 k, .int .i64 n, .str s, .slice (ts.map Tm.av), .slice (b.map Tm.av)] := rfl
theorem clAv_agg (c : Cl) : (clAv c).isAgg = true := by obtain ⟨⟨k, n, s, ts⟩, b⟩ := c; rfl
theorem clAv_width (c : Cl) : (clAv c).width = 5 := by obtain ⟨⟨k, n, s, ts⟩, b⟩ := c; rfl
theorem clAv_junk (c : Cl) : (clAv c).isJunk = false := by obtain ⟨⟨k, n, s, ts⟩, b⟩ := c; rfl
def plainT : Tm → Bool | .mk k _ s ts => plainGoal k s (ts.length : Int)
def clOk (c : Cl) : Bool := c.1.valid && plainT c.1 && (decide (c.2.length ≤ 6) && c.2.all Tm.goal)
def progOk (p : List Cl) : Bool := decide (p.length ≤ 20) && p.all clOk
def frI (c : Cl) : Int := (tmsVars (c.1 :: c.2) []).foldl (fun n v => if n ≤ v then v + 1 else n) 0
def frN (c : Cl) : Nat := (frI c).toNat
def shf (N : Nat) (t : Tm) : Tm := ren (fun v => v + (N : Int)) t
def fitT (t : Tm) : Bool := t.flat 30 && decide (t.nodes ≤ 120)
def cutT (t : Tm) : Bool := decide (t.k = 3) && decide (t.s = ⟨#[33]⟩) && decide ((t.ts.length : Int) = 0)
def hdOf (c : Cl) (t : Tm) : Bool := decide (c.1.s = t.s) && decide ((c.1.ts.length : Int) = (t.ts.length : Int))
def forL (p : List Cl) (t : Tm) : List Nat := (List.range p.length).filter fun i => match p[i]? with
 | some c => hdOf c t
 | none => false
def endC (c : Int) : Int := if c = 2 then 4 else if c = 3 then 5 else if c = 4 then 6 else 7
noncomputable def ansR (σ : Sub) (vars : List Int) : Option (List Tm) :=
 if ((vars.map (rs σ)).all fitT = true) ∧ (tmsVars (vars.map (rs σ)) []).length ≤ 26 then some (renumL (vars.map (rs σ))) else none
structure RG where
 t : Tm
 keep : Nat
structure RC where
 goal : Tm
 rest : List RG
 left : List Nat
 σ : Sub
 N : Nat
structure RS where
 goals : List RG
 σ : Sub
 N : Nat
 chs : List RC
inductive RO where
 | go (s : RS)
 | fail
 | stop (e : Int)
noncomputable def rTry (p : List Cl) (chs : List RC) (goal : Tm) (rest : List RG) (σ : Sub) (N : Nat) : List Nat → Option RS
 | [] => none
 | i :: l => match p[i]? with
  | none => none
  | some x => if (uniG σ goal (shf N x.1)).1 = true then
   some ⟨x.2.map (fun t => ⟨shf N t, chs.length⟩) ++ rest, (uniG σ goal (shf N x.1)).2.1, N + frN x, if l = [] then chs else chs ++ [⟨goal, rest, l, σ, N⟩]⟩
   else rTry p chs goal rest σ N l
noncomputable def rBack (p : List Cl) : Nat → List RC → Option RS
 | 0, _ => none
 | n + 1, chs => match chs.getLast? with
  | none => none
  | some c => match rTry p chs.dropLast c.goal c.rest c.σ c.N c.left with
   | some s => some s
   | none => rBack p n chs.dropLast
noncomputable def rStep (p : List Cl) (cnd : Tm → List Nat → List Nat) (s : RS) (g : RG) (rest : List RG) : RO :=
 if fitT (g.t.mapv (rs s.σ)) = false then .stop 3
 else if cutT (g.t.mapv (rs s.σ)) = true then .go ⟨rest, s.σ, s.N, s.chs.take g.keep⟩
 else if isBuiltin (g.t.mapv (rs s.σ)).s ((g.t.mapv (rs s.σ)).ts.length : Int) = true then
  if (solveG s.σ (g.t.mapv (rs s.σ)).s (g.t.mapv (rs s.σ)).ts).1 = 0 then .go ⟨rest, (solveG s.σ (g.t.mapv (rs s.σ)).s (g.t.mapv (rs s.σ)).ts).2.1, s.N, s.chs⟩
  else if (solveG s.σ (g.t.mapv (rs s.σ)).s (g.t.mapv (rs s.σ)).ts).1 = 1 then .fail
  else .stop (endC (solveG s.σ (g.t.mapv (rs s.σ)).s (g.t.mapv (rs s.σ)).ts).1)
 else if forL p (g.t.mapv (rs s.σ)) = [] then .stop 8
 else match rTry p s.chs (g.t.mapv (rs s.σ)) rest s.σ s.N (cnd (g.t.mapv (rs s.σ)) (forL p (g.t.mapv (rs s.σ)))) with
  | some s' => .go s'
  | none => .fail
noncomputable def rRun (p : List Cl) (cnd : Tm → List Nat → List Nat) (vars : List Int) (most fuel : Nat) (s : RS) : List (List Tm) × Int :=
 match s.goals with
 | [] => if h : most = 0 then ([], 1) else match ansR s.σ vars with
  | none => ([], 3)
  | some a => match rBack p s.chs.length s.chs with
   | none => ([a], 0)
   | some s' => (a :: (rRun p cnd vars (most - 1) fuel s').1, (rRun p cnd vars (most - 1) fuel s').2)
 | g :: rest => if h : fuel = 0 then ([], 2) else match rStep p cnd s g rest with
  | .stop e => ([], e)
  | .go s' => rRun p cnd vars most (fuel - 1) s'
  | .fail => match rBack p s.chs.length s.chs with
   | none => ([], 0)
   | some s' => rRun p cnd vars most (fuel - 1) s'
termination_by most + fuel
decreasing_by all_goals omega
def rStart (q : List Tm) : RS := ⟨q.map fun t => ⟨t, 0⟩, Sub.none, 26, []⟩
noncomputable def solveR (p : List Cl) (cnd : Tm → List Nat → List Nat) (q : List Tm) (most fuel : Nat) : List (List Tm) × Int := rRun p cnd (tmsVars q []) most fuel (rStart q)
structure IG where
 t : Tm
 cut : Nat
 up : Int
structure IC where
 goal : Tm
 node : Nat
 rest : List IG
 list : List Nat
 trail : Nat
 taken : Nat
structure IS where
 goals : List IG
 σ : Sub
 tr : List Int
 chs : List IC
 fresh : Nat
 nn : Nat
inductive IO' where
 | go (s : IS)
 | fail (s : IS)
 | stop (e : Int)
noncomputable def iTry (p : List Cl) (goal : Tm) (at' : Nat) (rest : List IG) : List Nat → IS → Bool × IS
 | [], s => (false, s)
 | i :: l, s => match p[i]? with
  | none => (false, s)
  | some x => if (uniG s.σ goal (shf s.fresh x.1)).1 = true then
   (true, ⟨x.2.map (fun t => ⟨shf s.fresh t, s.chs.length, at'⟩) ++ rest, (uniG s.σ goal (shf s.fresh x.1)).2.1, s.tr ++ (uniG s.σ goal (shf s.fresh x.1)).2.2, if l = [] then s.chs else s.chs ++ [⟨goal, at', rest, l, s.tr.length, s.nn⟩], s.fresh + 26, s.nn⟩)
   else iTry p goal at' rest l { s with fresh := s.fresh + 26 }
def IS.pop (s : IS) (c : IC) : IS := { s with chs := s.chs.dropLast, σ := s.σ.out (s.tr.drop c.trail), tr := s.tr.take c.trail, nn := c.taken }
noncomputable def iBack (p : List Cl) : Nat → IS → Option IS
 | 0, _ => none
 | n + 1, s => match s.chs.getLast? with
  | none => none
  | some c => if (iTry p c.goal c.node c.rest c.list (s.pop c)).1 = true then some (iTry p c.goal c.node c.rest c.list (s.pop c)).2 else iBack p n (iTry p c.goal c.node c.rest c.list (s.pop c)).2
noncomputable def iStep (p : List Cl) (cnd : Tm → List Nat → List Nat) (s : IS) (g : IG) (rest : List IG) : IO' :=
 if fitT (g.t.mapv (rs s.σ)) = false then .stop 3
 else if cutT (g.t.mapv (rs s.σ)) = true then .go { s with goals := rest, chs := s.chs.take g.cut, nn := s.nn + 1 }
 else if isBuiltin (g.t.mapv (rs s.σ)).s ((g.t.mapv (rs s.σ)).ts.length : Int) = true then
  if (solveG s.σ (g.t.mapv (rs s.σ)).s (g.t.mapv (rs s.σ)).ts).1 = 0 then .go { s with goals := rest, σ := (solveG s.σ (g.t.mapv (rs s.σ)).s (g.t.mapv (rs s.σ)).ts).2.1, tr := s.tr ++ (solveG s.σ (g.t.mapv (rs s.σ)).s (g.t.mapv (rs s.σ)).ts).2.2, nn := s.nn + 1 }
  else if (solveG s.σ (g.t.mapv (rs s.σ)).s (g.t.mapv (rs s.σ)).ts).1 = 1 then .fail { s with σ := (solveG s.σ (g.t.mapv (rs s.σ)).s (g.t.mapv (rs s.σ)).ts).2.1, tr := s.tr ++ (solveG s.σ (g.t.mapv (rs s.σ)).s (g.t.mapv (rs s.σ)).ts).2.2, nn := s.nn + 1 }
  else .stop (endC (solveG s.σ (g.t.mapv (rs s.σ)).s (g.t.mapv (rs s.σ)).ts).1)
 else if forL p (g.t.mapv (rs s.σ)) = [] then .stop 8
 else if (iTry p (g.t.mapv (rs s.σ)) s.nn rest (cnd (g.t.mapv (rs s.σ)) (forL p (g.t.mapv (rs s.σ)))) { s with nn := s.nn + 1 }).1 = true then .go (iTry p (g.t.mapv (rs s.σ)) s.nn rest (cnd (g.t.mapv (rs s.σ)) (forL p (g.t.mapv (rs s.σ)))) { s with nn := s.nn + 1 }).2
 else .fail (iTry p (g.t.mapv (rs s.σ)) s.nn rest (cnd (g.t.mapv (rs s.σ)) (forL p (g.t.mapv (rs s.σ)))) { s with nn := s.nn + 1 }).2
noncomputable def iRun (p : List Cl) (cnd : Tm → List Nat → List Nat) (vars : List Int) (most fuel : Nat) (s : IS) : List (List Tm) × Int :=
 match s.goals with
 | [] => if h : most = 0 then ([], 1) else match ansR s.σ vars with
  | none => ([], 3)
  | some a => match iBack p s.chs.length s with
   | none => ([a], 0)
   | some s' => (a :: (iRun p cnd vars (most - 1) fuel s').1, (iRun p cnd vars (most - 1) fuel s').2)
 | g :: rest => if h : fuel = 0 then ([], 2) else match iStep p cnd s g rest with
  | .stop e => ([], e)
  | .go s' => iRun p cnd vars most (fuel - 1) s'
  | .fail s' => match iBack p s'.chs.length s' with
   | none => ([], 0)
   | some s'' => iRun p cnd vars most (fuel - 1) s''
termination_by most + fuel
decreasing_by all_goals omega
def iStart (q : List Tm) : IS := ⟨q.map fun t => ⟨t, 0, -1⟩, Sub.none, [], [], 26, 0⟩
structure SimC (ρ : Int → Int) (N F : Nat) (σ τ : Sub) : Prop where
 sim : Sim ρ N σ τ
 rng : ∀ v, 0 ≤ v → v < (N : Int) → 0 ≤ ρ v ∧ ρ v < (F : Int)
 g1 : IsGood σ
 o1 : AllS (OkX N) σ
 g2 : IsGood τ
 o2 : AllS (OkX F) τ
 d1 : ∀ n, ¬(0 ≤ n ∧ n < (N : Int)) → σ n = none
 d2 : ∀ n, ¬(0 ≤ n ∧ n < (F : Int)) → τ n = none
 h26 : 26 ≤ N
 idn : ∀ v, 0 ≤ v → v < 26 → ρ v = v
theorem SimC.mono {ρ : Int → Int} {N F F' : Nat} {σ τ : Sub} (S : SimC ρ N F σ τ) (h : F ≤ F') : SimC ρ N F' σ τ :=
 ⟨S.sim, fun v h0 h1 => ⟨(S.rng v h0 h1).1, by have := (S.rng v h0 h1).2; omega⟩, S.g1, S.o1, S.g2, S.o2.imp fun t ht => ht.mono (by omega), S.d1, fun n hn => S.d2 n fun h' => hn ⟨h'.1, by omega⟩, S.h26, S.idn⟩
def extR (ρ : Int → Int) (N F : Nat) : Int → Int := fun v => if v < (N : Int) then ρ v else v - N + F
theorem extR_old {ρ : Int → Int} {N F : Nat} {v : Int} (h : v < (N : Int)) : extR ρ N F v = ρ v := if_pos h
theorem SimC.ext {ρ : Int → Int} {N F : Nat} {σ τ : Sub} (S : SimC ρ N F σ τ) {k : Nat} (hk : k ≤ 26) : SimC (extR ρ N F) (N + k) (F + 26) σ τ := by
 have hnew : ∀ v : Int, ¬ v < (N : Int) → extR ρ N F v = v - N + F := fun v h => if_neg h
 refine ⟨⟨fun v w hv0 hv1 hw0 hw1 e => ?_, fun v h0 h1 => ?_⟩, fun v h0 h1 => ?_, S.g1, S.o1.imp fun t ht => ht.mono (by omega), S.g2, S.o2.imp fun t ht => ht.mono (by omega), fun n hn => S.d1 n fun h => hn ⟨h.1, by omega⟩, fun n hn => S.d2 n fun h => hn ⟨h.1, by omega⟩, by have := S.h26; omega, fun v h0 h1 => by rw [extR_old (by have := S.h26; omega)]; exact S.idn v h0 h1⟩
 · by_cases hv : v < (N : Int) <;> by_cases hw : w < (N : Int)
   · rw [extR_old hv, extR_old hw] at e; exact S.sim.inj v w hv0 hv hw0 hw e
   · rw [extR_old hv, hnew w hw] at e
     have := S.rng v hv0 hv
     omega
   · rw [extR_old hw, hnew v hv] at e
     have := S.rng w hw0 hw
     omega
   · rw [hnew v hv, hnew w hw] at e
     omega
 · by_cases hv : v < (N : Int)
   · rw [extR_old hv, S.sim.map v h0 hv]
     cases hs : σ v with
     | none => rfl
     | some u =>
      simp only [Option.map_some, Option.some.injEq]
      refine ren_congr fun w hw => ?_
      rw [extR_old ((S.o1 v u hs).1.2.2 w hw).2]
   · rw [hnew v hv, S.d1 v (fun h => hv h.2), S.d2 _ (fun h => by omega)]
     rfl
 · by_cases hv : v < (N : Int)
   · rw [extR_old hv]
     have := S.rng v h0 hv
     omega
   · rw [hnew v hv]; omega
theorem fr_fold (l : List Int) : ∀ n : Int, n ≤ l.foldl (fun n v => if n ≤ v then v + 1 else n) n ∧ (∀ v ∈ l, v < l.foldl (fun n v => if n ≤ v then v + 1 else n) n) ∧ ∀ m : Int, n ≤ m → (∀ v ∈ l, v < m) → l.foldl (fun n v => if n ≤ v then v + 1 else n) n ≤ m := by
 induction l with
 | nil => intro n; exact ⟨Int.le_refl _, by simp, fun m h _ => h⟩
 | cons x l ih =>
  intro n
  simp only [List.foldl_cons]
  obtain ⟨h1, h2, h3⟩ := ih (if n ≤ x then x + 1 else n)
  refine ⟨?_, fun v hv => ?_, fun m hm hl => h3 m ?_ fun v hv => hl v (by simp [hv])⟩
  · split at h1 <;> rename_i h <;> split <;> omega
  · rcases List.mem_cons.1 hv with rfl | hv
    · split at h1 <;> rename_i h <;> split <;> omega
    · exact h2 v hv
  · have := hl x (by simp)
    split <;> omega
structure ClX (c : Cl) : Prop where
 head : OkX 26 c.1
 body : ∀ t ∈ c.2, OkX 26 t ∧ t.k = 3
theorem ClX.vars {c : Cl} (h : ClX c) {v : Int} : v ∈ tmsVars (c.1 :: c.2) [] ↔ ∃ t ∈ c.1 :: c.2, v ∈ t.vl := by
 rw [tmsVars_mem]
 · simp
 · intro t ht
   rcases List.mem_cons.1 ht with rfl | ht
   · exact h.head.1.2.1
   · exact (h.body t ht).1.1.2.1
theorem ClX.okAll {c : Cl} (h : ClX c) : ∀ t ∈ c.1 :: c.2, OkX 26 t := fun t ht => by
 rcases List.mem_cons.1 ht with rfl | ht
 · exact h.head
 · exact (h.body t ht).1
theorem ClX.fr {c : Cl} (h : ClX c) : frN c ≤ 26 ∧ ∀ t ∈ c.1 :: c.2, ∀ v ∈ t.vl, v < (frN c : Int) := by
 obtain ⟨h1, h2, h3⟩ := fr_fold (tmsVars (c.1 :: c.2) []) 0
 have hle := h3 26 (by omega) fun v hv => by
  obtain ⟨t, ht, hv⟩ := h.vars.1 hv
  exact ((h.okAll t ht).1.2.2 v hv).2
 unfold frN frI
 refine ⟨by omega, fun t ht v hv => ?_⟩
 have := h2 v (h.vars.2 ⟨t, ht, hv⟩)
 omega
theorem ClX.shf {c : Cl} (h : ClX c) (N : Nat) : ∀ t ∈ c.1 :: c.2, OkX ((N + frN c : Nat) : Int) (shf N t) := fun t ht => by
 refine (h.okAll t ht).ren fun v hv => ?_
 have h1 := ((h.okAll t ht).1.2.2 v hv).1
 have h2 := h.fr.2 t ht v hv
 omega
theorem shf_ext {ρ : Int → Int} {N F : Nat} {c : Cl} (h : ClX c) : ∀ t ∈ c.1 :: c.2, ren (extR ρ N F) (shf N t) = shf F t := fun t ht => by
 unfold AW.shf
 rw [show ren (extR ρ N F) (ren (fun v => v + (N : Int)) t) = t.mapv fun v => vr (extR ρ N F (v + N)) from ren_mapv _ _ t]
 refine mapv_congr t fun v hv => ?_
 have h1 := ((h.okAll t ht).1.2.2 v hv).1
 show vr (extR ρ N F (v + (N : Int))) = vr (v + (F : Int))
 unfold extR
 rw [if_neg (by omega)]
 congr 1
 omega
theorem shf_k {N : Nat} (t : Tm) : (shf N t).k = t.k := ren_k _ t
def GL (ρ : Int → Int) (N : Nat) (gs : List RG) (hs : List IG) : Prop := hs.map (fun h => (h.t, h.cut)) = gs.map (fun g => (ren ρ g.t, g.keep)) ∧ ∀ g ∈ gs, OkX N g.t ∧ g.t.k = 3
theorem GL.ext {ρ ρ' : Int → Int} {N N' : Nat} {gs : List RG} {hs : List IG} (h : GL ρ N gs hs) (hN : N ≤ N') (hr : ∀ v, 0 ≤ v → v < (N : Int) → ρ' v = ρ v) : GL ρ' N' gs hs := by
 refine ⟨h.1.trans (List.map_congr_left fun g hg => ?_), fun g hg => ⟨(h.2 g hg).1.mono (by omega), (h.2 g hg).2⟩⟩
 rw [ren_congr (ρ := ρ) (ρ' := ρ') fun v hv => (hr v ((h.2 g hg).1.1.2.2 v hv).1 ((h.2 g hg).1.1.2.2 v hv).2).symm]
theorem GL.app {ρ : Int → Int} {N : Nat} {gs gs' : List RG} {hs hs' : List IG} (h : GL ρ N gs hs) (h' : GL ρ N gs' hs') : GL ρ N (gs ++ gs') (hs ++ hs') := by
 refine ⟨by rw [List.map_append, List.map_append, h.1, h'.1], fun g hg => ?_⟩
 rcases List.mem_append.1 hg with hg | hg
 · exact h.2 g hg
 · exact h'.2 g hg
def C1 (F : Nat) (c : RC) (d : IC) (τ : Sub) : Prop := ∃ ρ, SimC ρ c.N F c.σ τ ∧ d.goal = ren ρ c.goal ∧ OkX c.N c.goal ∧ GL ρ c.N c.rest d.rest ∧ d.list = c.left
inductive ChR (F : Nat) : List RC → List IC → Sub → List Int → Prop
 | nil {τ : Sub} {tr : List Int} : ChR F [] [] τ tr
 | snoc {cs : List RC} {ds : List IC} {c : RC} {d : IC} {τ : Sub} {tr : List Int} (h : ChR F cs ds (τ.out (tr.drop d.trail)) (tr.take d.trail)) (h1 : C1 F c d (τ.out (tr.drop d.trail))) (h2 : d.trail ≤ tr.length) : ChR F (cs ++ [c]) (ds ++ [d]) τ tr
theorem ChR.len {F : Nat} {cs : List RC} {ds : List IC} {τ : Sub} {tr : List Int} (h : ChR F cs ds τ tr) : ds.length = cs.length := by
 induction h with
 | nil => rfl
 | snoc _ _ _ ih => simp [ih]
theorem ChR.mono {F F' : Nat} (hF : F ≤ F') {cs : List RC} {ds : List IC} {τ : Sub} {tr : List Int} (h : ChR F cs ds τ tr) : ChR F' cs ds τ tr := by
 induction h with
 | nil => exact .nil
 | snoc _ h1 h2 ih => exact .snoc ih (by obtain ⟨ρ, h3, h4⟩ := h1; exact ⟨ρ, h3.mono hF, h4⟩) h2
theorem drop_take' (tr : List Int) {a m : Nat} (h : a ≤ m) (n : Int) : n ∈ tr.drop m ++ (tr.take m).drop a ↔ n ∈ tr.drop a := by
 have e : tr.drop a = (tr.take m).drop a ++ tr.drop m := by
  conv => lhs; rw [← List.take_append_drop m tr]
  rw [List.drop_append]
  by_cases hm : m ≤ tr.length
  · rw [List.length_take, Nat.min_eq_left hm, show a - m = 0 by omega, List.drop_zero]
  · rw [List.drop_of_length_le (show tr.length ≤ m by omega)]
    simp
 rw [e, List.mem_append, List.mem_append, or_comm]
theorem ChR.lift {F : Nat} {cs : List RC} {ds : List IC} {τ : Sub} {tr : List Int} {m : Nat} (h : ChR F cs ds (τ.out (tr.drop m)) (tr.take m)) (hm : m ≤ tr.length) : ChR F cs ds τ tr := by
 generalize hτ : τ.out (tr.drop m) = τ' at h
 generalize htr : tr.take m = tr' at h
 cases h with
 | nil => exact .nil
 | @snoc cs ds c d _ _ h h1 h2 =>
  subst hτ htr
  have hd : d.trail ≤ m := by rw [List.length_take] at h2; omega
  have e1 : (τ.out (tr.drop m)).out ((tr.take m).drop d.trail) = τ.out (tr.drop d.trail) := by
   rw [Sub.out_out]
   exact Sub.out_perm τ (drop_take' tr hd)
  have e2 : (tr.take m).take d.trail = tr.take d.trail := by rw [List.take_take, Nat.min_eq_left hd]
  rw [e1, e2] at h
  rw [e1] at h1
  exact .snoc h h1 (by omega)
theorem ChR.more {F : Nat} {cs : List RC} {ds : List IC} {τ τ' : Sub} {tr add : List Int} (h : ChR F cs ds τ tr) (e : τ'.out add = τ) : ChR F cs ds τ' (tr ++ add) := by
 refine ChR.lift (m := tr.length) ?_ (by simp)
 rw [List.drop_left, List.take_left, e]
 exact h
theorem ChR.take {F : Nat} {cs : List RC} {ds : List IC} {τ : Sub} {tr : List Int} (h : ChR F cs ds τ tr) (k : Nat) : ChR F (cs.take k) (ds.take k) τ tr := by
 induction h with
 | nil => simp; exact .nil
 | @snoc cs ds c d τ tr h h1 h2 ih =>
  have hl := h.len
  by_cases hk : k ≤ cs.length
  · rw [List.take_append_of_le_length hk, List.take_append_of_le_length (by omega)]
    exact ih.lift h2
  · rw [List.take_of_length_le (by simp; omega), List.take_of_length_le (by simp; omega)]
    exact .snoc h h1 h2
def Rl (s : RS) (i : IS) : Prop := ∃ ρ, SimC ρ s.N i.fresh s.σ i.σ ∧ GL ρ s.N s.goals i.goals ∧ ChR i.fresh s.chs i.chs i.σ i.tr
theorem UniG.outEq {N : Int} {σ : Sub} {a b : Tm} {r : Bool} {σ' : Sub} {tr : List Int} (h : UniG N σ a b r σ' tr) : σ'.out tr = σ := funext fun n => h.out n
theorem SolG.outEq {N : Int} {σ σ' : Sub} {add : List Int} (h : SolG N σ σ' add) : σ'.out add = σ := by
 funext n
 unfold Sub.out
 split
 · rename_i hn; exact ((h.new n hn).1).symm
 · rename_i hn; exact h.keep n hn
theorem SolG.dom {N : Nat} {σ σ' : Sub} {add : List Int} (h : SolG N σ σ' add) (hd : ∀ n, ¬(0 ≤ n ∧ n < (N : Int)) → σ n = none) : ∀ n, ¬(0 ≤ n ∧ n < (N : Int)) → σ' n = none := fun n hn => by
 rw [h.keep n fun h' => hn (h.inN n h')]
 exact hd n hn
theorem SimC.grow {ρ : Int → Int} {N F : Nat} {σ τ σ' τ' : Sub} {add add' : List Int} (S : SimC ρ N F σ τ) (h : SolG N σ σ' add) (h' : SolG F τ τ' add') (s : Sim ρ N σ' τ') : SimC ρ N F σ' τ' :=
 ⟨s, S.rng, h.good, h.ok, h'.good, h'.ok, h.dom S.d1, h'.dom S.d2, S.h26, S.idn⟩
theorem SimC.renX {ρ : Int → Int} {N F : Nat} {σ τ : Sub} (S : SimC ρ N F σ τ) {t : Tm} (h : OkX N t) : OkX F (ren ρ t) := h.ren fun v hv => S.rng v (h.1.2.2 v hv).1 (h.1.2.2 v hv).2
section
variable {p : List Cl} (hp : ∀ c ∈ p, ClX c)
include hp
theorem try_sim {cs : List RC} {goal : Tm} {rest : List RG} {σ : Sub} {N : Nat} {ρ : Int → Int} {rest' : List IG} {τ : Sub} {tr : List Int} {ds : List IC} {nn at' : Nat} (hg : OkX N goal) (hr : GL ρ N rest rest') :
 ∀ (l : List Nat) (F : Nat) (gl : List IG), SimC ρ N F σ τ → ChR F cs ds τ tr →
 match rTry p cs goal rest σ N l with
 | none => ∃ F', F ≤ F' ∧ iTry p (ren ρ goal) at' rest' l ⟨gl, τ, tr, ds, F, nn⟩ = (false, ⟨gl, τ, tr, ds, F', nn⟩)
 | some s => ∃ i, iTry p (ren ρ goal) at' rest' l ⟨gl, τ, tr, ds, F, nn⟩ = (true, i) ∧ Rl s i := by
 intro l
 induction l with
 | nil => intro F gl S C; exact ⟨F, Nat.le_refl _, rfl⟩
 | cons j l ih =>
  intro F gl S C
  unfold rTry iTry
  cases hj : p[j]? with
  | none => exact ⟨F, Nat.le_refl _, rfl⟩
  | some x =>
   have hx := hp x (List.mem_of_getElem? hj)
   have S2 := S.ext hx.fr.1
   have hgo : ren (extR ρ N F) goal = ren ρ goal := ren_congr fun v hv => extR_old (hg.1.2.2 v hv).2
   have hhd := hx.shf N x.1 (by simp)
   have hgN : OkX ((N + frN x : Nat) : Int) goal := hg.mono (by omega)
   obtain ⟨r, σ', add, U⟩ := uniG_of S2.g1 S2.o1 hgN hhd
   obtain ⟨g, hrun⟩ := U.run
   obtain ⟨τ', e, S', _⟩ := S2.sim.uniG S2.g1 S2.g2 S2.o1.okV hgN.1 hhd.1 hrun
   rw [hgo, shf_ext hx x.1 (by simp)] at e
   have hF1 : OkX ((F + 26 : Nat) : Int) (ren ρ goal) := by rw [← hgo]; exact S2.renX hgN
   have hF2 : OkX ((F + 26 : Nat) : Int) (shf F x.1) := by rw [← shf_ext (ρ := ρ) (N := N) (F := F) hx x.1 (by simp)]; exact S2.renX hhd
   obtain ⟨r2, τ2, add2, U2⟩ := uniG_of S2.g2 S2.o2 hF1 hF2
   have e2 := U2.eq
   rw [e] at e2
   obtain ⟨rfl, rfl, rfl⟩ : r = r2 ∧ τ' = τ2 ∧ add.map (extR ρ N F) = add2 := by simpa using e2
   simp only [U.eq, e]
   cases r with
   | false =>
    simp only [Bool.false_eq_true, if_false]
    have := ih (F + 26) gl (S.mono (by omega)) (C.mono (by omega))
    cases hq : rTry p cs goal rest σ N l with
    | none =>
     rw [hq] at this
     obtain ⟨F', h1, h2⟩ := this
     exact ⟨F', by omega, h2⟩
    | some s =>
     rw [hq] at this
     exact this
   | true =>
    simp only [if_true]
    refine ⟨_, rfl, extR ρ N F, S2.grow U.sol U2.sol S', ?_, ?_⟩
    · refine GL.app ⟨?_, fun g hg => ?_⟩ (hr.ext (show N ≤ N + frN x by omega) fun v _ hv => extR_old hv)
      · simp only [List.map_map]
        refine List.map_congr_left fun t ht => ?_
        simp only [Function.comp_apply]
        rw [shf_ext hx t (by simp [ht]), C.len]
      · obtain ⟨t, ht, rfl⟩ := List.mem_map.1 hg
        exact ⟨hx.shf N t (by simp [ht]), by rw [shf_k]; exact (hx.body t ht).2⟩
    · have C2 := (C.mono (show F ≤ F + 26 by omega)).more U2.outEq
      by_cases hl : l = []
      · simp only [if_pos hl]
        exact C2
      · simp only [if_neg hl]
        refine .snoc ?_ ?_ (by simp)
        · simp only [List.drop_left, List.take_left, U2.outEq]
          exact C.mono (by omega)
        · simp only [List.drop_left, U2.outEq]
          exact ⟨ρ, S.mono (by omega), rfl, hg, hr, rfl⟩
theorem back_sim : ∀ (n : Nat) (cs : List RC) (i : IS), ChR i.fresh cs i.chs i.σ i.tr →
 match rBack p n cs with
 | none => iBack p n i = none
 | some s => ∃ i', iBack p n i = some i' ∧ Rl s i' := by
 intro n
 induction n with
 | zero => intro cs i C; simp only [rBack, iBack]
 | succ n ih =>
  intro cs i C
  obtain ⟨gl, τ, tr, ds, F, nn⟩ := i
  simp only at C
  cases C with
  | nil => simp only [rBack, iBack, List.getLast?_nil]
  | @snoc cs ds c d _ _ h h1 h2 =>
   obtain ⟨ρ, S, e1, hok, hG, e2⟩ := h1
   have key := try_sim hp (cs := cs) (nn := d.taken) (at' := d.node) (tr := tr.take d.trail) hok hG c.left F gl S h
   simp only [rBack, iBack, List.getLast?_append, List.getLast?_singleton, Option.or_some, Option.some_or, List.dropLast_concat]
   have e3 : (IS.pop ⟨gl, τ, tr, ds ++ [d], F, nn⟩ d) = ⟨gl, τ.out (tr.drop d.trail), tr.take d.trail, ds, F, d.taken⟩ := by simp only [IS.pop, List.dropLast_concat]
   rw [e1, e2, e3]
   cases ht : rTry p cs c.goal c.rest c.σ c.N c.left with
   | none =>
    rw [ht] at key
    obtain ⟨F', hF, e⟩ := key
    simp only [e, Bool.false_eq_true, if_false]
    exact ih cs _ (h.mono hF)
   | some s =>
    rw [ht] at key
    obtain ⟨i', e, hR⟩ := key
    simp only [e, if_true]
    exact ⟨i', rfl, hR⟩
variable {cnd : Tm → List Nat → List Nat} (hc : ∀ (ρ : Int → Int) (t : Tm) (l : List Nat), cnd (ren ρ t) l = cnd t l)
omit hp in
theorem ren_goal {ρ : Int → Int} {t : Tm} (h : t.k = 3) : (ren ρ t).s = t.s ∧ (ren ρ t).ts = t.ts.map (ren ρ) ∧ (ren ρ t).k = 3 := by
 rw [ren_ne ρ (by omega)]
 exact ⟨rfl, rfl, h⟩
omit hp in
theorem forL_ren {ρ : Int → Int} {t : Tm} (h : t.k = 3) : forL p (ren ρ t) = forL p t := by
 obtain ⟨h1, h2, _⟩ := ren_goal (ρ := ρ) h
 unfold forL hdOf
 simp only [h1, h2, List.length_map]
include hc
theorem step_sim {s : RS} {i : IS} {g : RG} {gs : List RG} (hR : Rl s i) (hgs : s.goals = g :: gs) :
 ∃ h hs, i.goals = h :: hs ∧ match rStep p cnd s g gs with
 | .stop e => iStep p cnd i h hs = .stop e
 | .go s' => ∃ i', iStep p cnd i h hs = .go i' ∧ Rl s' i'
 | .fail => ∃ i', iStep p cnd i h hs = .fail i' ∧ ChR i'.fresh s.chs i'.chs i'.σ i'.tr := by
 obtain ⟨ρ, S, hG, C⟩ := hR
 rw [hgs] at hG
 obtain ⟨gl, τ, tr, ds, F, nn⟩ := i
 simp only at S hG C ⊢
 cases gl with
 | nil => exact absurd hG.1 (by simp)
 | cons h hs =>
  refine ⟨h, hs, rfl, ?_⟩
  have hGt : GL ρ s.N gs hs := ⟨(List.cons.inj hG.1).2, fun x hx => hG.2 x (by simp [hx])⟩
  have he := (List.cons.inj hG.1).1
  simp only [Prod.mk.injEq] at he
  obtain ⟨e1, e2⟩ := he
  obtain ⟨hgX, hg3⟩ := hG.2 g (by simp)
  have hT := S.sim.rsT S.g1 S.g2 S.o1.okV hgX.1
  obtain ⟨rk, B, G⟩ := S.g1.rs
  have hV := G.okVT S.o1.okV hgX.1
  unfold rStep iStep
  simp only [e1, hT]
  have ht3 : (g.t.mapv (rs s.σ)).k = 3 := by rw [Tm.mapv_k _ (by omega)]; exact hg3
  generalize g.t.mapv (rs s.σ) = t at *
  obtain ⟨r1, r2, r3⟩ := ren_goal (ρ := ρ) ht3
  have hfit : fitT (ren ρ t) = fitT t := by unfold fitT; rw [ren_flat ρ hV.2.1, ren_nodes ρ hV.2.1]
  have hcut : cutT (ren ρ t) = cutT t := by unfold cutT; rw [r1, r2, r3, ht3, List.length_map]
  simp only [hfit, hcut, forL_ren (p := p) (ρ := ρ) ht3, hc, r1, r2, List.length_map]
  by_cases c1 : fitT t = false
  · rw [if_pos c1, if_pos c1]
  rw [if_neg c1, if_neg c1]
  have hX : OkX s.N t := ⟨hV, by
   have : fitT t = true := by simpa using c1
   unfold fitT at this
   simp only [Bool.and_eq_true, decide_eq_true_eq] at this
   exact this.2⟩
  by_cases c2 : cutT t = true
  · rw [if_pos c2, if_pos c2]
    refine ⟨_, rfl, ρ, S, hGt, ?_⟩
    simp only [e2]
    exact C.take g.keep
  rw [if_neg c2, if_neg c2]
  by_cases c3 : isBuiltin t.s (t.ts.length : Int) = true
  · rw [if_pos c3, if_pos c3]
    have hk : ∀ x ∈ t.ts, OkX s.N x := okX_kids _ t (by omega) hX
    obtain ⟨q1, q2, q3⟩ := S.sim.solveG S.g1 S.g2 S.o1 t.s t.ts hk
    have q4 := solveG_sol S.g1 S.o1 t.s t.ts hk
    have q5 := solveG_sol S.g2 S.o2 t.s (t.ts.map (ren ρ)) (fun x hx => by
     obtain ⟨y, hy, rfl⟩ := List.mem_map.1 hx
     exact S.renX (hk y hy))
    rw [q1]
    by_cases c4 : (solveG s.σ t.s t.ts).1 = 0
    · rw [if_pos c4, if_pos c4]
      exact ⟨_, rfl, ρ, S.grow q4 q5 q3, hGt, C.more q5.outEq⟩
    rw [if_neg c4, if_neg c4]
    by_cases c5 : (solveG s.σ t.s t.ts).1 = 1
    · rw [if_pos c5, if_pos c5]
      exact ⟨_, rfl, C.more q5.outEq⟩
    rw [if_neg c5, if_neg c5]
  rw [if_neg c3, if_neg c3]
  by_cases c6 : forL p t = []
  · rw [if_pos c6, if_pos c6]
  rw [if_neg c6, if_neg c6]
  have key := try_sim hp (at' := nn) (nn := nn + 1) hX hGt (cnd t (forL p t)) F (h :: hs) S C
  cases hq : rTry p s.chs t gs s.σ s.N (cnd t (forL p t)) with
  | none =>
   rw [hq] at key
   obtain ⟨F', hF, e⟩ := key
   simp only [e, Bool.false_eq_true, if_false]
   exact ⟨_, rfl, C.mono hF⟩
  | some s' =>
   rw [hq] at key
   obtain ⟨i', e, hR⟩ := key
   simp only [e, if_true]
   exact ⟨i', rfl, hR⟩
end
theorem tmsVars_ren {ρ : Int → Int} {N : Int} {σ τ : Sub} (S : Sim ρ N σ τ) : ∀ (l : List Tm) (acc : List Int), (∀ t ∈ l, OkV N t) → (∀ v ∈ acc, 0 ≤ v ∧ v < N) → tmsVars (l.map (ren ρ)) (acc.map ρ) = (tmsVars l acc).map ρ ∧ ∀ v ∈ tmsVars l acc, 0 ≤ v ∧ v < N
 | [], acc, _, ha => ⟨rfl, ha⟩
 | t :: l, acc, h, ha => by
  obtain ⟨e1, e2⟩ := vars_map (D := fun v => 0 ≤ v ∧ v < N) (h := ρ) (fun v w hv hw e => S.inj v w hv.1 hv.2 hw.1 hw.2 e) (f := fun v => vr (ρ v)) (fun _ _ => rfl) t (Tm.cv_wf t (h t (by simp)).2.1) (h t (by simp)).2.2 acc ha
  simp only [List.map_cons, tmsVars]
  rw [show (ren ρ t).vars (acc.map ρ) = (t.vars acc).map ρ from e1]
  exact tmsVars_ren S l _ (fun x hx => h x (by simp [hx])) e2
theorem renumL_ren {ρ : Int → Int} {N : Int} {σ τ : Sub} (S : Sim ρ N σ τ) {l : List Tm} (h : ∀ t ∈ l, OkV N t) : renumL (l.map (ren ρ)) = renumL l ∧ (tmsVars (l.map (ren ρ)) []).length = (tmsVars l []).length := by
 obtain ⟨e1, e2⟩ := tmsVars_ren S l [] h (by simp)
 rw [List.map_nil] at e1
 refine ⟨?_, by rw [e1, List.length_map]⟩
 unfold renumL
 rw [e1, List.map_map]
 refine List.map_congr_left fun t ht => ?_
 simp only [Function.comp_apply]
 rw [ren_mapv]
 refine mapv_congr t fun v hv => ?_
 rw [idxI_map (D := fun v => 0 ≤ v ∧ v < N) (fun v w hv hw e => S.inj v w hv.1 hv.2 hw.1 hw.2 e) v ((h t ht).2.2 v hv) _ _ e2]
theorem ans_sim {ρ : Int → Int} {N F : Nat} {σ τ : Sub} (S : SimC ρ N F σ τ) {vars : List Int} (hv : ∀ v ∈ vars, 0 ≤ v ∧ v < 26) : ansR τ vars = ansR σ vars := by
 obtain ⟨rk, B, G⟩ := S.g1.rs
 have hid := S.idn
 have h26 := S.h26
 have e : vars.map (rs τ) = (vars.map (rs σ)).map (ren ρ) := by
  rw [List.map_map]
  refine List.map_congr_left fun v h => ?_
  obtain ⟨h0, h1⟩ := hv v h
  have := S.sim.rs S.g1 S.g2 S.o1.okV v h0 (by omega)
  rw [hid v h0 h1] at this
  exact this
 have hok : ∀ t ∈ vars.map (rs σ), OkV N t := fun t ht => by
  obtain ⟨v, h, rfl⟩ := List.mem_map.1 ht
  obtain ⟨h0, h1⟩ := hv v h
  exact G.okV S.o1.okV v h0 (by omega)
 obtain ⟨e1, e2⟩ := renumL_ren S.sim hok
 have e3 : ((vars.map (rs σ)).map (ren ρ)).all fitT = (vars.map (rs σ)).all fitT := by
  rw [List.all_map, Bool.eq_iff_iff, List.all_eq_true, List.all_eq_true]
  have : ∀ t ∈ vars.map (rs σ), fitT (ren ρ t) = fitT t := fun t ht => by unfold fitT; rw [ren_flat ρ (hok t ht).2.1, ren_nodes ρ (hok t ht).2.1]
  constructor
  · intro h t ht; rw [← this t ht]; exact h t ht
  · intro h t ht; simp only [Function.comp_apply]; rw [this t ht]; exact h t ht
 unfold ansR
 rw [e, e1, e2, e3]
section
variable {p : List Cl} (hp : ∀ c ∈ p, ClX c) {cnd : Tm → List Nat → List Nat} (hc : ∀ (ρ : Int → Int) (t : Tm) (l : List Nat), cnd (ren ρ t) l = cnd t l)
include hp hc
theorem run_sim {vars : List Int} (hv : ∀ v ∈ vars, 0 ≤ v ∧ v < 26) : ∀ (n most fuel : Nat) (s : RS) (i : IS), most + fuel ≤ n → Rl s i → iRun p cnd vars most fuel i = rRun p cnd vars most fuel s := by
 intro n
 induction n with
 | zero =>
  intro most fuel s i hn hR
  obtain ⟨rfl, rfl⟩ : most = 0 ∧ fuel = 0 := by omega
  obtain ⟨ρ, S, hG, C⟩ := hR
  rw [iRun, rRun]
  cases hgs : s.goals with
  | nil =>
   rw [hgs] at hG
   have hi : i.goals = [] := List.map_eq_nil_iff.1 hG.1
   simp [hi]
  | cons g gs =>
   rw [hgs] at hG
   cases hi : i.goals with
   | nil => rw [hi] at hG; exact absurd hG.1 (by simp)
   | cons h hs => simp
 | succ n ih =>
  intro most fuel s i hn hR
  cases hgs : s.goals with
  | nil =>
   obtain ⟨ρ, S, hG, C⟩ := hR
   rw [hgs] at hG
   have hi : i.goals = [] := List.map_eq_nil_iff.1 hG.1
   rw [iRun, rRun]
   simp only [hgs, hi]
   by_cases hm : most = 0
   · simp [hm]
   simp only [hm, dif_neg, not_false_eq_true]
   rw [ans_sim S hv]
   cases ansR s.σ vars with
   | none => rfl
   | some a =>
    simp only
    have key := back_sim hp s.chs.length s.chs i C
    rw [C.len]
    cases hb : rBack p s.chs.length s.chs with
    | none => rw [hb] at key; simp only [key]
    | some s' =>
     rw [hb] at key
     obtain ⟨i', e, hR'⟩ := key
     simp only [e]
     rw [ih (most - 1) fuel s' i' (by omega) hR']
  | cons g gs =>
   obtain ⟨h, hs, hi, key⟩ := step_sim hp hc hR hgs
   rw [iRun, rRun]
   simp only [hgs, hi]
   by_cases hf : fuel = 0
   · simp [hf]
   simp only [hf, dif_neg, not_false_eq_true]
   cases hq : rStep p cnd s g gs with
   | stop e =>
    rw [hq] at key
    simp only [key]
   | go s' =>
    rw [hq] at key
    obtain ⟨i', e, hR'⟩ := key
    simp only [e]
    exact ih most (fuel - 1) s' i' (by omega) hR'
   | fail =>
    rw [hq] at key
    obtain ⟨i', e, C'⟩ := key
    simp only [e]
    have key2 := back_sim hp s.chs.length s.chs i' C'
    rw [C'.len]
    cases hb : rBack p s.chs.length s.chs with
    | none => rw [hb] at key2; simp only [key2]
    | some s' =>
     rw [hb] at key2
     obtain ⟨i'', e2, hR'⟩ := key2
     simp only [e2]
     exact ih most (fuel - 1) s' i'' (by omega) hR'
omit hp hc in
theorem start_sim {q : List Tm} (hq : ∀ t ∈ q, OkX 26 t ∧ t.k = 3) : Rl (rStart q) (iStart q) := by
 refine ⟨fun v => v, ⟨⟨fun v w _ _ _ _ e => e, fun v _ _ => rfl⟩, fun v h0 h1 => ⟨h0, h1⟩, IsGood.none, fun n u h => (by cases h), IsGood.none, fun n u h => (by cases h), fun _ _ => rfl, fun _ _ => rfl, Nat.le_refl _, fun _ _ _ => rfl⟩, ⟨?_, fun g hg => ?_⟩, .nil⟩
 · simp only [iStart, rStart, List.map_map]
   refine List.map_congr_left fun t ht => ?_
   simp only [Function.comp_apply]
   rw [show ren (fun v => v) t = t from mapv_id t (hq t ht).1.1.2.1]
 · simp only [rStart] at hg
   obtain ⟨t, ht, rfl⟩ := List.mem_map.1 hg
   exact hq t ht
theorem solve_sim {q : List Tm} (hq : ∀ t ∈ q, OkX 26 t ∧ t.k = 3) (most fuel : Nat) : iRun p cnd (tmsVars q []) most fuel (iStart q) = solveR p cnd q most fuel := by
 refine run_sim hp hc (fun v hv => ?_) _ most fuel _ _ (Nat.le_refl _) (start_sim hq)
 rw [tmsVars_mem _ _ fun t ht => (hq t ht).1.1.2.1] at hv
 rcases hv with hv | ⟨t, ht, hv⟩
 · cases hv
 · exact (hq t ht).1.1.2.2 v hv
end
theorem clOk_X {c : Cl} (h : clOk c = true) : ClX c := by
 simp only [clOk, Bool.and_eq_true, decide_eq_true_eq, List.all_eq_true] at h
 refine ⟨⟨Tm.valid_okV h.1.1, Tm.valid_nodes h.1.1⟩, fun t ht => ?_⟩
 have hg := h.2.2 t ht
 have hk : t.valid = true ∧ t.k = 3 := by
  obtain ⟨k, n, s, ts⟩ := t
  simp only [Tm.goal, Bool.and_eq_true] at hg
  refine ⟨hg.1, ?_⟩
  have := hg.2
  simp only [goalOk, plainGoal, Bool.or_eq_true, Bool.and_eq_true, decide_eq_true_eq] at this
  simp only [Tm.k]
  rcases this with (h | h) | h <;> first | exact h.1 | exact h.1.1 | exact h.1.1.1
 exact ⟨⟨Tm.valid_okV hk.1, Tm.valid_nodes hk.1⟩, hk.2⟩
end Go.AW
namespace Go.AW
open Go.Proofs.Tryz
abbrev ansAv (l : List Tm) : AV := .agg [.slice (l.map Tm.av)]
theorem Tm.goal_valid {t : Tm} (h : t.goal = true) : t.valid = true := by
 cases t; simp only [Tm.goal, Bool.and_eq_true] at h; exact h.1
theorem queryOk_valid {q : List Tm} (h : queryOk q = true) : (∀ t ∈ q, t.valid = true) ∧ q.length ≤ 6 := by
 simp only [queryOk, Bool.and_eq_true, decide_eq_true_eq, List.all_eq_true] at h
 exact ⟨fun t ht => Tm.goal_valid (h.2 t ht), h.1⟩
theorem queryOk_nodes {q : List Tm} (h : queryOk q = true) : sumL Tm.nodes q ≤ 1099511627776 := by
 obtain ⟨h1, h2⟩ := queryOk_valid h
 have := sum_nodes h1
 omega
def valOf (vars : List Int) (vals : List Tm) (n : Int) : Tm := (vals[(idxI n vars 0).toNat]?).getD (vr n)
def fitsQ (q vals : List Tm) : Bool := queryOk q && decide (vals.length = (tmsVars q []).length) && vals.all Tm.valid
def ansGoals (q vals : List Tm) : Option (List Tm) :=
 if fitsQ q vals = true ∧ (q.map (Tm.mapv (valOf (tmsVars q []) vals))).all Tm.valid = true then some (q.map (Tm.mapv (valOf (tmsVars q []) vals))) else none
theorem idxI_get (v : Int) : ∀ (l : List Int) (i : Int), v ∈ l → ∃ j : Nat, idxI v l i = i + j ∧ j < l.length ∧ l[j]? = some v ∧ ∀ k : Nat, k < j → l[k]? ≠ some v
 | [], i, h => by simp at h
 | x :: xs, i, h => by
  simp only [idxI]
  by_cases e : v = x
  · exact ⟨0, by rw [if_pos e]; simp, by simp, by simp [e], fun k hk => absurd hk (Nat.not_lt_zero k)⟩
  · obtain ⟨j, h1, h2, h3, h4⟩ := idxI_get v xs (i + 1) (by simpa [e] using h)
    refine ⟨j + 1, by rw [if_neg e, h1]; omega, by simp; omega, by simpa using h3, fun k hk => ?_⟩
    cases k with
    | zero => simp; exact fun h => e h.symm
    | succ k => simpa using h4 k (by omega)
abbrev tf_Ag1_55 := zi tI_3 (zi zI_3 (zi underlying3 (zi tI_4 (zi zI_4 (zi underlying4 (zi tI_31 (zi zI_31 (zi eI_31 (zi eB_31 (zi eZ_31 (zi underlying31 (zi tI_51 (zi zI_51 (zi fI_51_0 (zi bI_51 (zi tI_58 (zi zI_58 (zi eI_58 (zi eB_58 (zi eZ_58 underlying58))))))))))))))))))))
theorem c_fits (vals q : List Tm) (st : zy7) : zq7 prog 55 [ansAv vals, .slice (q.map Tm.av)] st (fun r st' => r = .bool (fitsQ q vals) ∧ st' = st) := by
 refine wF [1000000] 2 func55 ntmps55 rfl rfl ?_
 simp only [fitsL, AV.fits, and_true, List.length_map]
 intro ⟨⟨hl, _⟩, ⟨hl2, _⟩⟩
 unfold fitsQ
 simp -implicitDefEqProofs only [List.length_map, ansAv, evF, ↓evZ, implies_true, seval, tf_Ag1_55]
 refine wP [(0, 1), (1, 2), (2, 1), (3, 1), (6, 1), (4, 1), (5, 1), (7, 0), (8, 1), (9, 1), (10, 1), (11, 1), (12, 1), (13, 2), (14, 0), (15, 1), (16, 1)] [0, 1, 2, 3, 6, 4, 5, 8, 9, 10, 11, 12, 13, 15, 16] mixed ?_
 simp -implicitDefEqProofs only [List.length_map, ansAv, evF, ↓evZ, implies_true, seval, tf_Ag1_55]
 refine zw4 (c_impl_QueryValid q _) ?_
 simp -implicitDefEqProofs only [List.length_map, ansAv, evF, ↓evZ, implies_true, seval, tf_Ag1_55]
 refine zx4 (fun h => ?_) (fun h => ?_)
 case refine_2 =>
  simp -implicitDefEqProofs only [h, List.length_map, ansAv, evF, ↓evZ, implies_true, seval, tf_Ag1_55]
  simp at h
  simp [h]
 simp -implicitDefEqProofs only [h, List.length_map, ansAv, evF, ↓evZ, implies_true, seval, tf_Ag1_55]
 refine (c_varsOf q _ (queryOk_nodes h)).to ?_
 simp -implicitDefEqProofs only [h, List.length_map, ansAv, evF, ↓evZ, implies_true, seval, tf_Ag1_55]
 refine zx4 (fun h2 => ?_) (fun h2 => ?_)
 case refine_2 =>
  simp -implicitDefEqProofs only [h, h2, List.length_map, ansAv, evF, ↓evZ, implies_true, seval, tf_Ag1_55]
  simp at h2
  rw [show decide (vals.length = (tmsVars q []).length) = false by simp; omega, Bool.false_and]
 simp -implicitDefEqProofs only [h, h2, List.length_map, ansAv, evF, ↓evZ, implies_true, seval, tf_Ag1_55]
 refine (c_allValid vals _).to ?_
 simp -implicitDefEqProofs only [h, h2, List.length_map, ansAv, evF, ↓evZ, implies_true, seval, tf_Ag1_55]
 simp at h2
 rw [show decide (vals.length = (tmsVars q []).length) = true by simp; omega, Bool.true_and]
abbrev tf_Ag1_58 := zi tI_3 (zi zI_3 (zi underlying3 (zi tI_31 (zi zI_31 (zi eI_31 (zi eB_31 (zi eZ_31 (zi underlying31 (zi tI_42 (zi zI_42 (zi fI_42_0 (zi fI_42_1 (zi fI_42_2 (zi fI_42_3 (zi bI_42 (zi tI_51 (zi zI_51 (zi fI_51_0 (zi bI_51 (zi tI_58 (zi zI_58 (zi eI_58 (zi eB_58 (zi eZ_58 underlying58))))))))))))))))))))))))
theorem c_AnswerGoals_1 (vals : List Tm) (vars : List Int) (n : Int) (hn : n ∈ vars) (hl : vals.length = vars.length) (st : zy7) : zq7 prog 58 [.int .i64 n, .pptr (ansAv vals), .pptr (.slice (vars.map iv))] st (fun r st' => r = (valOf vars vals n).av ∧ st' = st) := by
 refine zq7.done ?_
 refine wF [1000000] 3 func58 ntmps58 rfl rfl ?_
 intro _
 obtain ⟨j, h1, h2, h3, _⟩ := idxI_get n vars 0 hn
 obtain ⟨x, hx⟩ : ∃ x, vals[j]? = some x := ⟨_, List.getElem?_eq_getElem (by omega)⟩
 have hat := ev_at (av := Tm.av) eI_31 hx (Tm.av_width x)
 rw [Int.zero_add] at h1
 simp -implicitDefEqProofs only [List.length_map, ansAv, hat, evF, ↓evZ, implies_true, seval, tf_Ag1_58]
 intro b hb
 refine wP [(0, 1), (3, 1), (1, 2), (2, 2), (4, 2), (5, 1), (6, 2), (7, 0)] [0, 3, 1, 2, 4, 5, 6] mixed ?_
 simp -implicitDefEqProofs only [List.length_map, ansAv, hat, evF, ↓evZ, implies_true, seval, tf_Ag1_58]
 refine zw4 (c_IndexInt vars n _) ?_
 rw [h1]
 simp -implicitDefEqProofs only [List.length_map, ansAv, hat, evF, ↓evZ, implies_true, seval, tf_Ag1_58]
 refine ⟨by rw [Tm.soft, valOf, h1, Int.toNat_natCast, hx]; rfl, (Drops.refl _).upd hb⟩
abbrev tf_Ag1_25 := zi tI_3 (zi zI_3 (zi underlying3 (zi tI_4 (zi zI_4 (zi underlying4 (zi tI_31 (zi zI_31 (zi eI_31 (zi eB_31 (zi eZ_31 (zi underlying31 (zi tI_42 (zi zI_42 (zi fI_42_0 (zi fI_42_1 (zi fI_42_2 (zi fI_42_3 (zi bI_42 (zi tI_51 (zi zI_51 (zi fI_51_0 (zi bI_51 (zi tI_58 (zi zI_58 (zi eI_58 (zi eB_58 (zi eZ_58 underlying58)))))))))))))))))))))))))))
theorem c_impl_AnswerGoals (q vals : List Tm) (st : zy7) : zq7 prog 25 [.slice (q.map Tm.av), ansAv vals] st (fun r st' => ∃ o, r = .tup [o, .bool (ansGoals q vals).isSome] ∧ Made st (.slice (((ansGoals q vals).getD []).map Tm.av)) o st') := by
 refine wF [1000000] 2 func25 ntmps25 rfl rfl ?_
 simp only [fitsL, AV.fits, and_true, List.length_map]
 intro ⟨⟨hl2, _⟩, hl, _⟩
 simp -implicitDefEqProofs only [List.length_map, evF, ↓evZ, implies_true, seval, tf_Ag1_25]
 refine (c_fits vals q _).to ?_
 simp -implicitDefEqProofs only [List.length_map, evF, ↓evZ, implies_true, seval, tf_Ag1_25]
 have hnone : ansGoals q vals = none → ∃ o, AV.tup [.fslice [], .bool false] = .tup [o, .bool (ansGoals q vals).isSome] ∧ Made st (.slice (((ansGoals q vals).getD []).map Tm.av)) o st := fun h => by
  rw [h]
  exact ⟨_, rfl, [], List.nodup_nil, by simp, by simp [Own], fun _ _ => rfl⟩
 refine zq4 (fun h => ?_) (fun h => ?_)
 · simp only [Bool.not_eq_true'] at h
   simp -implicitDefEqProofs only [List.length_map, evF, ↓evZ, implies_true, seval, tf_Ag1_25]
   exact hnone (by rw [ansGoals, if_neg (by simp [h])])
 simp only [Bool.not_eq_false'] at h
 have hq : queryOk q = true := by simp only [fitsQ, Bool.and_eq_true] at h; exact h.1.1
 have hvl : vals.length = (tmsVars q []).length := by simp only [fitsQ, Bool.and_eq_true, decide_eq_true_eq] at h; exact h.1.2
 have hva : ∀ x ∈ vals, x.valid = true := by simp only [fitsQ, Bool.and_eq_true, List.all_eq_true] at h; exact h.2
 obtain ⟨hqv, hq6⟩ := queryOk_valid hq
 simp -implicitDefEqProofs only [List.length_map, evF, ↓evZ, implies_true, seval, tf_Ag1_25]
 refine (c_varsOf q _ (queryOk_nodes hq)).to ?_
 simp -implicitDefEqProofs only [List.length_map, evF, ↓evZ, implies_true, seval, tf_Ag1_25]
 have hcl : ∀ x ∈ q, ∀ n ∈ x.vl, ∀ s, zq7 prog 58 [.int .i64 n, .pptr (ansAv vals), .pptr (.slice ((tmsVars q []).map iv))] s (fun r s' => r = (valOf (tmsVars q []) vals n).av ∧ s' = s) := fun x hx n hn s =>
  c_AnswerGoals_1 vals (tmsVars q []) n ((tmsVars_mem q [] fun t ht => Tm.valid_cv (hqv t ht)).2 (.inr ⟨x, hx, hn⟩)) hvl s
 have hfs : ∀ n, (valOf (tmsVars q []) vals n).small = true := fun n => by
  unfold valOf
  cases hv : vals[(idxI n (tmsVars q []) 0).toNat]? with
  | none => rfl
  | some x => exact Tm.valid_small (hva x (List.mem_of_getElem? hv))
 generalize hF : valOf (tmsVars q []) vals = F at *
 refine zq6 (σ := Unit) [1000000] [3, 4, 5, 6, 16, 17] (q) 4 7 (fun i _ => (((q).take i).map (Tm.mapv F)).map Tm.av) (fun _ _ => True) (fun i _ => [(18, .int .i64 i)]) (fun _ _ => st) (fun i _ _ e he => by simp only [List.mem_map] at he; obtain ⟨t, _, rfl⟩ := he; exact ⟨Tm.av_junk t, Tm.av_width t⟩) (by decide +kernel) ⟨(), 0, trivial, fun h => absurd rfl h, zx7.mk (by simp -implicitDefEqProofs only [accV_nil, accS_nil, List.take_zero, List.map_nil, List.length_map, List.length_map, evF, ↓evZ, implies_true, seval, tf_Ag1_25])⟩ (fun i x s b hx hlt hlt' hdr hinv hb => ?_) (fun s b hge hinv => ?_)
 case refine_1 =>
  have hw := wrap64 (n := (i : Int) + 1) (by omega) (by omega)
  have hlen' : ((((q).take i).map (Tm.mapv F)).map Tm.av).length = i := by simp only [List.length_map, List.length_take]; omega
  have htk : ((((q).take i).map (Tm.mapv F)).map Tm.av) ++ [Tm.av ((Tm.mapv F) x)] = (((q).take (i + 1)).map (Tm.mapv F)).map Tm.av := by rw [List.take_add_one, hx]; simp
  have hat := ev_at (av := Tm.av) eI_31 hx (Tm.av_width x)
  simp -implicitDefEqProofs only [hlt', List.length_map, hat, evF, ↓evZ, implies_true, seval, tf_Ag1_25]
  refine (c_mapVars F _ [.pptr (ansAv vals), .pptr (.slice ((tmsVars q []).map iv))] rfl x _ (Tm.valid_small (hqv x (List.mem_of_getElem? hx))) (hcl x (List.mem_of_getElem? hx))).to ?_
  simp -implicitDefEqProofs only [List.length_map, hat, evF, ↓evZ, implies_true, seval, tf_Ag1_25]
  refine acc_append eI_31 eB_31 eZ_31 rfl rfl (by intro e he; simp only [List.mem_cons, List.not_mem_nil, or_false] at he; subst he; exact ⟨Tm.av_width _, Tm.av_store _⟩) (by intro e he; simp only [List.mem_map] at he; obtain ⟨t, _, rfl⟩ := he; exact Tm.av_width t) hb (by simp only [hlen', List.length_cons, List.length_nil]; omega) (by simp only [hlen', List.length_cons, List.length_nil]; omega) (fun b' hb' => ?_)
  rw [htk] at hb' ⊢
  simp -implicitDefEqProofs only [List.length_map, hat, evF, ↓evZ, implies_true, seval, tf_Ag1_25]
  exact ⟨(), b', hb', zx7.mk (by simp -implicitDefEqProofs only [hw, List.length_map, hat, evF, ↓evZ, implies_true, seval, tf_Ag1_25])⟩
 simp -implicitDefEqProofs only [hge, fin_agg, fin_tup, fin_int, fin_bool, fin_str, fin_slice, fin_fslice, fin_pptr, fin_ptr, fin_func, fin_map, fin_undef, fin_accV, tm_fin, List.take_length, List.length_map, evF, ↓evZ, implies_true, seval, tf_Ag1_25]
 refine (c_allValid _ _).to ?_
 simp -implicitDefEqProofs only [List.length_map, evF, ↓evZ, implies_true, seval, tf_Ag1_25]
 refine zq4 (fun h2 => ?_) (fun h2 => ?_)
 · simp only [Bool.not_eq_true'] at h2
   simp -implicitDefEqProofs only [List.length_map, evF, ↓evZ, implies_true, seval, tf_Ag1_25]
   exact hnone (by rw [ansGoals, if_neg (by rw [hF]; simp [h2])])
 simp only [Bool.not_eq_false'] at h2
 simp -implicitDefEqProofs only [List.length_map, evF, ↓evZ, implies_true, seval, tf_Ag1_25]
 have hsm : ∀ x ∈ q.map (Tm.mapv F), x.small = true := fun x hx => by
  obtain ⟨y, hy, rfl⟩ := List.mem_map.1 hx
  exact Tm.mapv_small hfs y (Tm.valid_small (hqv y hy))
 refine (o_ownList (q.map (Tm.mapv F)) _ (by rw [List.length_map]; omega) fun x hx s => o_own x s (hsm x hx)).mono ?_
 rintro o s1 hm
 have hoj : o.isJunk = false := by obtain ⟨bs, _, _, h3, _⟩ := hm; exact (Own.shape h3).2.2.1
 simp -implicitDefEqProofs only [hoj, List.length_map, evF, ↓evZ, implies_true, seval, tf_Ag1_25]
 rw [ansGoals, hF, if_pos ⟨h, h2⟩]
 exact ⟨o, rfl, hm⟩
theorem tmsVars_app : ∀ (a b : List Tm) (l : List Int), tmsVars (a ++ b) l = tmsVars b (tmsVars a l)
 | [], _, _ => rfl
 | t :: a, b, l => by simp only [List.cons_append, tmsVars, tmsVars_app a b]
abbrev tf_Ag2_89 := zi tI_3 (zi zI_3 (zi underlying3 (zi tI_31 (zi zI_31 (zi eI_31 (zi eB_31 (zi eZ_31 (zi underlying31 (zi tI_42 (zi zI_42 (zi fI_42_0 (zi fI_42_1 (zi fI_42_2 (zi fI_42_3 (zi bI_42 (zi tI_58 (zi zI_58 (zi eI_58 (zi eB_58 (zi eZ_58 underlying58))))))))))))))))))))
theorem c_l6Vars (q : List Tm) (st : zy7) (hwf : ∀ t ∈ q, t.wf = true) (hsz : sumL Tm.nodes q ≤ 1099511627776) : zq7 prog 89 [.slice (q.map Tm.av)] st (fun r st' => r = .slice ((tmsVars q []).map iv) ∧ st' = st) := by
 refine zq7.done ?_
 refine wF [1000000] 1 func89 ntmps89 rfl rfl ?_
 simp only [fitsL, AV.fits, and_true, List.length_map]
 intro ⟨hl, _⟩
 simp -implicitDefEqProofs only [List.length_map, evF, ↓evZ, implies_true, seval, tf_Ag2_89]
 refine zq6 (σ := Unit) [1000000] [0, 2] q 1 3 (fun i _ => (tmsVars (q.take i) []).map iv) (fun _ _ => True) (fun i _ => [(4, .int .i64 i)]) (fun _ _ => st) (fun i _ _ e he => by simp only [List.mem_map] at he; obtain ⟨t, _, rfl⟩ := he; exact ⟨rfl, rfl⟩) (by decide +kernel) ⟨(), 0, trivial, fun h => absurd rfl h, zx7.mk (by simp -implicitDefEqProofs only [accV_nil, accS_nil, List.take_zero, tmsVars, List.map_nil, List.length_map, evF, ↓evZ, implies_true, seval, tf_Ag2_89])⟩ (fun i x s b hx hlt hlt' hdr hinv hb => ?_) (fun s b hge hinv => ?_)
 case refine_2 =>
  simp -implicitDefEqProofs only [hge, fin_agg, fin_tup, fin_int, fin_bool, fin_str, fin_slice, fin_fslice, fin_pptr, fin_ptr, fin_func, fin_map, fin_undef, fin_accV, tm_fin, List.take_length, List.length_map, evF, ↓evZ, implies_true, seval, tf_Ag2_89]
  exact ⟨rfl, Drops.refl _⟩
 have hw := wrap64 (n := (i : Int) + 1) (by omega) (by omega)
 have hat := ev_at (av := Tm.av) eI_31 hx (Tm.av_width x)
 have hst := sumL_take Tm.nodes hx
 have hvl := tmsVars_len (q.take i) []
 simp only [List.length_nil, Nat.zero_add] at hvl
 have htk : x.vars (tmsVars (q.take i) []) = tmsVars (q.take (i + 1)) [] := by
  rw [List.take_add_one, hx, tmsVars_app]
  rfl
 simp -implicitDefEqProofs only [hlt', List.length_map, hat, evF, ↓evZ, implies_true, seval, tf_Ag2_89]
 refine (c_l1Vars x (tmsVars (q.take i) []) b st (hwf x (List.mem_of_getElem? hx)) hb (by omega)).mono ?_
 rintro _ _ ⟨b', rfl, rfl, hb'⟩
 rw [htk] at hb' ⊢
 simp -implicitDefEqProofs only [List.length_map, hat, evF, ↓evZ, implies_true, seval, tf_Ag2_89]
 exact ⟨(), b', hb', zx7.mk (by simp -implicitDefEqProofs only [hw, List.length_map, hat, evF, ↓evZ, implies_true, seval, tf_Ag2_89])⟩
end Go.AW
namespace Go.AW
theorem StepH.of {h : Heap} {st st' : zy7} (hk : ∀ x, st x = none → st' x = none) : StepH h st h st' := ⟨Nat.le_refl _, fun x _ e => ⟨rfl, hk x e⟩, fun _ c _ _ e => ⟨c, e, rfl⟩⟩
theorem Less.freezeIn {φ : AF} {st : zy7} {b c : Nat} {es cs : List AV} (hbc : b ≠ c) (h1 : st b = some (.cells (es.flatMap AV.cells))) (h2 : ∀ e ∈ es, e.isJunk = false) (h3 : Even es) (hc : st c = some (.cells cs)) :
 Less φ st φ ((st.erase b).upd c (.cells (fzL b es cs))) := fun h tmps S F => by
 have T2 : StepH h (st.erase b) h ((st.erase b).upd c (.cells (fzL b es cs))) := StepH.of fun x hx => by
  have : x ≠ c := by rintro rfl; simp [zy7.erase, Ne.symm hbc, hc] at hx
  rw [zy7.upd_ne _ _ this]; exact hx
 have T : StepH h st h ((st.erase b).upd c (.cells (fzL b es cs))) := ((Drops.erase' st b).step h).trans T2
 refine ⟨fun x o hx => ?_, T, fun d => (F d).mono T⟩
 by_cases e : x = c
 · subst e
   rw [zy7.upd_same] at hx
   cases hx
   obtain ⟨hl, c0, t, e1, e2, vs, e3, e4⟩ := S x _ hc
   refine ⟨hl, c0, t, e1, ?_, vs, e3, VCs.mono T2 _ _ (VCs.fz S h1 h2 h3 cs vs e4)⟩
   rw [fzL_map, List.length_map]; exact e2
 · rw [zy7.upd_ne _ _ e] at hx
   have hx' : st x = some o := by
    simp only [zy7.erase] at hx
    split at hx
    · cases hx
    · exact hx
   obtain ⟨hl, y⟩ := S x o hx'
   exact ⟨hl, ORel.mono T rfl y⟩
theorem Less.softIn {φ : AF} {st : zy7} {c : Nat} {cs : List AV} (hc : st c = some (.cells cs)) : Less φ st φ (st.upd c (.cells (softL cs))) := fun h tmps S F => by
 have T : StepH h st h (st.upd c (.cells (softL cs))) := StepH.of fun x hx => by
  have : x ≠ c := by rintro rfl; rw [hc] at hx; cases hx
  rw [zy7.upd_ne _ _ this]; exact hx
 refine ⟨fun x o hx => ?_, T, fun d => (F d).mono T⟩
 by_cases e : x = c
 · subst e
   rw [zy7.upd_same] at hx
   cases hx
   obtain ⟨hl, c0, t, e1, e2, vs, e3, e4⟩ := S x _ hc
   refine ⟨hl, c0, t, e1, ?_, vs, e3, VCs.mono T _ _ (VCs.soft cs vs e4)⟩
   rw [softL_map, List.length_map]; exact e2
 · rw [zy7.upd_ne _ _ e] at hx
   obtain ⟨hl, y⟩ := S x o hx
   exact ⟨hl, ORel.mono T rfl y⟩
theorem less_kid {φ : AF} {S : zy7} {c b : Nat} {k n : Int} {s : ByteArray} {l : List AV} (hb : l ≠ [] → (S.upd c (.cells ([.int .i64 k, .int .i64 n, .str s] ++ [accV 4 b l]))) b = none) (hj : ∀ e ∈ l, e.isJunk = false) (hE : Even l) :
 Less φ (kidS S c b [.int .i64 k, .int .i64 n, .str s] l) φ (S.upd c (.cells [.int .i64 k, .int .i64 n, .str s, .slice l])) := by
 have hcc := kidS_c hb
 cases l with
 | nil =>
  have := Less.softIn (φ := φ) hcc
  unfold kidS at this ⊢
  simp only [accS_nil, zy7.upd_upd] at this
  exact this
 | cons y l =>
  have h0 := hb (by simp)
  have hne : b ≠ c := by rintro rfl; rw [zy7.upd_same] at h0; cases h0
  have h1 : kidS S c b [.int .i64 k, .int .i64 n, .str s] (y :: l) b = some (.cells ((y :: l).flatMap AV.cells)) := by unfold kidS; simp only [accS]; exact zy7.upd_same _ _ _
  have := Less.freezeIn (φ := φ) hne h1 hj hE hcc
  have e : (kidS S c b [.int .i64 k, .int .i64 n, .str s] (y :: l)).erase b = S.upd c (.cells ([.int .i64 k, .int .i64 n, .str s] ++ [accV 4 b (y :: l)])) := by unfold kidS; simp only [accS]; exact zy7.erase_upd _ _ _ h0
  rw [e, zy7.upd_upd] at this
  simpa [fzL, AV.fz, accV] using this
theorem kidS_hd {S : zy7} {c b : Nat} {hd hd' l : List AV} (hb : l ≠ [] → (S.upd c (.cells (hd ++ [accV 4 b l]))) b = none) :
 (kidS S c b hd l).upd c (.cells (hd' ++ [accV 4 b l])) = kidS S c b hd' l ∧ (l ≠ [] → (S.upd c (.cells (hd' ++ [accV 4 b l]))) b = none) := by
 have hne : l ≠ [] → c ≠ b := fun h e => by have := hb h; rw [← e, zy7.upd_same] at this; cases this
 refine ⟨by unfold kidS; rw [accS_upd hne, zy7.upd_upd], fun h => ?_⟩
 have := hb h
 rw [zy7.upd_ne _ _ (Ne.symm (hne h))] at this ⊢
 exact this
theorem drops_acc2 {s0 st : zy7} {b : Nat} {l : List AV} (D : Drops s0 st) : Drops (accS s0 b l) (accS st b l) := by
 cases l with
 | nil => exact D
 | cons y l =>
  intro x
  simp only [accS]
  by_cases e : x = b
  · subst e; simp [zy7.upd_same]
  · rw [zy7.upd_ne _ _ e, zy7.upd_ne _ _ e]; exact D x
end Go.AW
