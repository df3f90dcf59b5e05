import Derived.Test.YtepkgoabhlnkbaaGreatDoorSesp
import Derived.Test.YtepkgoabhlnkbaaGreatDoorSesn
import Derived.Test.YtepkgoabhlnkbaaGreatDoorSesf
import Derived.Test.YtepkgoabhlnkbaaGreatDoorSesl
import Derived.Test.YtepkgoabhlnkbaaGreatDoorSesj
import Derived.Test.YtepkgoabhlnkbaaGreatDoorSesi
import Derived.Test.YtepkgoabhlnkbaaGreatDoorSesm
import Derived.ProofKit
set_option linter.unusedSimpArgs false
set_option linter.unusedVariables false
set_option maxRecDepth 100000
namespace Go.AW
open Go.Proofs.Tryz
theorem shf_zero {N : Int} {t : Tm} (h : OkV N t) : shf 0 t = t := by
 have h1 : shf 0 t = t.mapv vr := by
  unfold shf ren
  congr 1
  funext v
  congr 1
  simp
 rw [h1, mapv_id t h.2.1]
theorem arrN_none (N : Nat) : arrN N Sub.none = List.replicate N zt := by
 apply List.ext_getElem?
 intro i
 by_cases h : i < N
 · rw [arrN_get N _ h, List.getElem?_replicate, if_pos h]; rfl
 · rw [List.getElem?_eq_none (by rw [arrN_len]; omega), List.getElem?_eq_none (by simp; omega)]
abbrev tf_R8_40 := zi tI_3 (zi zI_3 (zi underlying3 (zi tI_29 (zi zI_29 (zi eI_29 (zi eB_29 (zi eZ_29 (zi underlying29 (zi tI_68 (zi zI_68 (zi eI_68 (zi eB_68 (zi eZ_68 (zi underlying68 (zi tI_71 (zi zI_71 (zi fI_71_0 (zi fI_71_1 (zi fI_71_2 bI_71)))))))))))))))))))
theorem c_l6Start (q : List Tm) (hq : ∀ t ∈ q, OkX 26 t) (h6 : q.length ≤ 6) (st : zy7) : zq7 prog 40 [.slice (q.map Tm.av)] st (fun r st' => r = rsAv (rStart q) ∧ st' = st) := by
 have hgo : ∀ st, zq7 prog 58 [.slice (q.map Tm.av), .int .i64 0, .int .i64 0, .fslice []] st (fun r st' => r = .slice ((rStart q).goals.map rgAv) ∧ st' = st) := fun st =>
  zq7.softArgs ((c_l6Goals q 0 0 [] hq h6 (by omega) (by simp) st).mono fun _ _ h => ⟨by
   rw [h.1]
   unfold rStart
   rw [List.append_nil]
   congr 2
   exact List.map_congr_left fun t ht => by rw [shf_zero (hq t ht).1], h.2⟩)
 refine zq7.drop2 (zq7.fin (zq7.dropS ?_))
 refine wF [1000000, 3] 1 func40 ntmps40 rfl rfl ?_
 intro _
 simp -implicitDefEqProofs only [zy4, List.length_map, evF, ↓evZ, implies_true, seval, tf_R8_40]
 intro b2 h2
 simp -implicitDefEqProofs only [aMakeSlice, zy4, List.length_map, evE, ↓evZ2, ↓evZ3, ↓Int.cast_ofNat_Int, implies_true, zy2, aFn, List.contains, List.elem, zq3, zy1, zq2, sub, zx3, zw2, zw3, zy3, gd, zq1, zw0, zq0, zx0, zx2, zx1, zy0, zw1, List.range', ↓reduceIte, reduceCtorEq, Nat.reduceEqDiff, Nat.reduceAdd, Nat.reduceLeDiff, Nat.reduceMul, Nat.reduceLT, Nat.reduceBEq, Int.reduceEq, tf_R8_40]
 refine ⟨by omega, by omega, by omega, fun bb hbb => ?_⟩
 rw [show Int.toNat 26 = 26 from rfl, madeAV_eq _ (by simp)]
 have hb2 : bb ≠ b2 := by rintro rfl; rw [zy7.upd_same] at hbb; cases hbb
 have hcells : (List.replicate 26 [AV.int .i64 0, .int .i64 0, .str ⟨#[]⟩, .fslice []]).flatten = (arrN 26 Sub.none).flatMap AV.cells := by
  rw [arrN_none]; rfl
 rw [hcells]
 have h22 : (st.upd b2 (AO.cells [AV.fslice [], AV.fslice [], AV.fslice []])) b2 = some (AO.cells [AV.fslice [], AV.fslice [], AV.fslice []]) := zy7.upd_same _ _ _
 have hD2 : Drops (st.upd b2 (AO.cells [AV.fslice [], AV.fslice [], AV.fslice []])) st := (Drops.refl _).upd h2
 intro b3 h3
 have h3b : b3 ≠ bb := by rintro rfl; rw [zy7.upd_same] at h3; cases h3
 rw [zy7.upd_ne _ _ h3b] at h3
 have h32 : b3 ≠ b2 := by rintro rfl; rw [zy7.upd_same] at h3; cases h3
 have hs3 : st b3 = none := by rw [zy7.upd_ne _ _ h32] at h3; exact h3
 have hsb : st bb = none := by rw [zy7.upd_ne _ _ hb2] at hbb; exact hbb
 refine (hgo _).to ?_
 have e1 := Ne.symm h3b
 have e2 := Ne.symm h32
 have e3 := Ne.symm hb2
 simp -implicitDefEqProofs only [zy4, List.length_map, h3b, h32, e1, e2, e3, hb2, zy7.upd_same, evF, ↓evZ, implies_true, seval, tf_R8_40]
 have harr : arrN 26 Sub.none ≠ [] := by rw [arrN_none]; simp
 refine ⟨st.upd bb (.cells ((arrN 26 Sub.none).flatMap AV.cells)), fun q' => ?_, bb, arrN 26 Sub.none, st, by rw [accS_cons harr], fun _ => hsb, arrN_junk _ _, ⟨4, arrN_widths _ _⟩, ?_, Drops.refl _⟩
 · by_cases q2 : q' = b2
   · subst q2; rw [zy7.upd_same, zy7.upd_ne _ _ e3, h2]; simp
   rw [zy7.upd_ne _ _ q2]
   by_cases q3 : q' = b3
   · subst q3; rw [zy7.upd_same, zy7.upd_ne _ _ h3b, hs3]; simp
   simp only [zy7.upd_ne _ _ q3]
   by_cases qb : q' = bb
   · subst qb; rw [zy7.upd_same, zy7.upd_same]; simp
   rw [zy7.upd_ne _ _ qb, zy7.upd_ne _ _ qb, zy7.upd_ne _ _ q2]
   simp
 · simp only [fin_agg, fin_tup, fin_int, fin_bool, fin_str, fin_slice, fin_fslice, fin_pptr, fin_ptr, fin_func, fin_map, fin_undef, fin_accV, tm_fin, List.map_cons, List.map_nil, fin_arrN (show 0 < 26 by omega)]
   rfl
theorem accS_updC {S : zy7} {b c : Nat} {l : List AV} {o : AO} (h : l ≠ [] → b ≠ c) : (accS S b l).upd c o = accS (S.upd c o) b l := by
 cases l with
 | nil => rfl
 | cons x l => rw [accS_cons (by simp), accS_cons (by simp), zy7.upd_comm _ _ _ (h (by simp))]
theorem rRun_nil {p : List Cl} {cnd : Tm → List Nat → List Nat} {vars : List Int} {most fuel : Nat} {s : RS} (hg : s.goals = []) : rRun p cnd vars most fuel s = if most = 0 then ([], 1) else match ansR s.σ vars with
 | none => ([], 3)
 | some a => match rBack p s.chs.length s.chs with
  | none => ([a], 0)
  | some s' => (a :: (rRun p cnd vars (most - 1) fuel s').1, (rRun p cnd vars (most - 1) fuel s').2) := by
 rw [rRun.eq_def, hg]
 simp only
 split <;> rfl
theorem rRun_cons {p : List Cl} {cnd : Tm → List Nat → List Nat} {vars : List Int} {most fuel : Nat} {s : RS} {g : RG} {rest : List RG} (hg : s.goals = g :: rest) : rRun p cnd vars most fuel s = if fuel = 0 then ([], 2) else match rStep p cnd s g rest with
 | .stop e => ([], e)
 | .go s' => rRun p cnd vars most (fuel - 1) s'
 | .fail => match rBack p s.chs.length s.chs with
  | none => ([], 0)
  | some s' => rRun p cnd vars most (fuel - 1) s' := by
 rw [rRun.eq_def, hg]
 simp only
 split <;> rfl
structure RunI (p : List Cl) (vars : List Int) (most fuel : Nat) (T : List (List Tm) × Int) (s : RS) (out : List (List Tm)) (f B : Nat) : Prop where
 tot : T = (out ++ (rRun p (fun _ l => l) vars (most - out.length) f s).1, (rRun p (fun _ l => l) vars (most - out.length) f s).2)
 len : out.length ≤ most
 ok : RsA p B s
 bd : B + 26 * f ≤ 8000
abbrev tf_R9_26 := zi tI_2 (zi zI_2 (zi underlying2 (zi tI_3 (zi zI_3 (zi underlying3 (zi tI_4 (zi zI_4 (zi underlying4 (zi tI_28 (zi zI_28 (zi eI_28 (zi eB_28 (zi eZ_28 (zi underlying28 (zi tI_29 (zi zI_29 (zi eI_29 (zi eB_29 (zi eZ_29 (zi underlying29 (zi tI_39 (zi zI_39 (zi eI_39 (zi eB_39 (zi eZ_39 (zi underlying39 (zi tI_66 (zi zI_66 (zi eI_66 (zi eB_66 (zi eZ_66 (zi underlying66 (zi tI_68 (zi zI_68 (zi eI_68 (zi eB_68 (zi eZ_68 (zi underlying68 (zi tI_71 (zi zI_71 (zi fI_71_0 (zi fI_71_1 (zi fI_71_2 (zi bI_71 (zi tI_74 (zi zI_74 (zi fI_74_0 bI_74)))))))))))))))))))))))))))))))))))))))))))))))
theorem c_l6Run {p : List Cl} (hp : ∀ c ∈ p, ClX c ∧ c.2.length ≤ 6) (hpl : p.length ≤ 20) {q : List Tm} (hq : ∀ t ∈ q, OkX 26 t ∧ t.k = 3) (h6 : q.length ≤ 6) {most fuel : Nat} (hm : most ≤ 20) (hf : fuel ≤ 300) (st : zy7) :
 zq7 prog 26 [.slice (p.map clAv), .slice (q.map Tm.av), .int .i64 (most : Int), .int .i64 (fuel : Int)] st (fun r st' => r = .tup [.slice ((solveR p (fun _ l => l) q most fuel).1.map ansAv), .int .i64 (solveR p (fun _ l => l) q most fuel).2] ∧ st' = st) := by
 have hnd : sumL Tm.nodes q ≤ 1099511627776 := by
  have := nodes_120 q fun t ht => (hq t ht).1.2
  omega
 have hva := fun st => c_l6Vars q st (fun t ht => Tm.cv_wf t (hq t ht).1.1.2.1) hnd
 have hst0 := fun st => c_l6Start q (fun t ht => (hq t ht).1) h6 st
 have hv : ∀ v ∈ tmsVars q [], 0 ≤ v ∧ v < 26 := fun v hv => by
  rcases (tmsVars_mem q [] fun t ht => (hq t ht).1.1.2.1).1 hv with h | ⟨t, ht, h⟩
  · cases h
  · exact (hq t ht).1.1.2.2 v h
 have hvl : (tmsVars q []).length ≤ 1000 := by
  have h1 := tmsVars_len q []
  have h2 := nodes_120 q fun t ht => (hq t ht).1.2
  simp only [List.length_nil] at h1
  omega
 have hstart := RsA.start (p := p) hq h6
 generalize hT : solveR p (fun _ l => l) q most fuel = T
 unfold solveR at hT
 generalize tmsVars q [] = vars at *
 have hI0 : RunI p vars most fuel T (rStart q) [] fuel 26 := ⟨by rw [← hT]; rfl, Nat.zero_le _, hstart, by omega⟩
 generalize rStart q = s0 at *
 simp only [rsAv] at hst0
 refine zq7.drop2 (zq7.fin (zq7.dropS ?_))
 refine wF [1000000, 12] 4 func26 ntmps26 rfl rfl ?_
 intro _
 simp -implicitDefEqProofs only [zy4, List.length_map, evF, ↓evZ, implies_true, seval, tf_R9_26]
 refine (hva _).to ?_
 simp -implicitDefEqProofs only [zy4, List.length_map, evF, ↓evZ, implies_true, seval, tf_R9_26]
 refine (hst0 _).to ?_
 simp -implicitDefEqProofs only [zy4, List.length_map, evF, ↓evZ, implies_true, seval, tf_R9_26]
 intro b12 h12
 refine zw5 (σ := RS × List (List Tm) × Nat × Nat × Nat) [1000000, 12] [0, 2, 11, 12] (fun x => RunI p vars most fuel T x.1 x.2.1 x.2.2.1 x.2.2.2.1 ∧ (x.2.1.map ansAv ≠ [] → (st.upd b12 (.cells [.slice (x.1.goals.map rgAv), .slice (arrN x.1.N x.1.σ), .slice (x.1.chs.map rcAv)])) x.2.2.2.2 = none))
  (fun x => [(3, .int .i64 (x.2.2.1 : Int)), (8, .fslice []), (9, .int .i64 0), (10, accV 1 x.2.2.2.2 (x.2.1.map ansAv))])
  (fun x => accS (st.upd b12 (.cells [.slice (x.1.goals.map rgAv), .slice (arrN x.1.N x.1.σ), .slice (x.1.chs.map rcAv)])) x.2.2.2.2 (x.2.1.map ansAv))
  (fun x => (most - x.2.1.length) + x.2.2.1) (by decide +kernel) ⟨(s0, [], fuel, 26, 0), ⟨hI0, by simp⟩, zx7.mk (by simp -implicitDefEqProofs only [accV_nil, List.map_nil, zy4, List.length_map, evF, ↓evZ, implies_true, seval, tf_R9_26])⟩ ?_
 rintro ⟨s, out, f, B, b⟩ ⟨⟨tot, hlen, hok, hbd⟩, hb⟩
 simp only at tot hlen hok hbd hb
 simp only
 have hbc : out.map ansAv ≠ [] → b ≠ b12 := fun h => by rintro rfl; have := hb h; rw [zy7.upd_same] at this; cases this
 have hV12 := accS_other hb (zy7.upd_same st b12 (.cells [.slice (s.goals.map rgAv), .slice (arrN s.N s.σ), .slice (s.chs.map rcAv)]))
 have hlo : (out.map ansAv).length = out.length := List.length_map _
 have hjunk : ∀ l : List (List Tm), ∀ e ∈ l.map ansAv, e.isJunk = false := fun l e he => by simp only [List.mem_map] at he; obtain ⟨t, _, rfl⟩ := he; rfl
 have hwid : ∀ l : List (List Tm), ∀ e ∈ l.map ansAv, e.width = 1 := fun l e he => by simp only [List.mem_map] at he; obtain ⟨t, _, rfl⟩ := he; rfl
 have fin : ∀ (S : zy7) (b : Nat) (l : List (List Tm)) (e : Int), (l.map ansAv ≠ [] → S b = none) → Drops S st → T = (l, e) → ∃ s2, Drops (accS S b (l.map ansAv)) s2 ∧ ∃ b' l' s0, s2 = accS s0 b' l' ∧ (l' ≠ [] → s0 b' = none) ∧ (∀ e ∈ l', e.isJunk = false) ∧ Even l' ∧ (AV.tup [accV 1 b (l.map ansAv), .int .i64 e]).fin b' l' = .tup [.slice (T.1.map ansAv), .int .i64 T.2] ∧ Drops s0 st := fun S b l e h1 h2 h3 =>
  ⟨_, Drops.refl _, b, l.map ansAv, S, rfl, h1, hjunk l, ⟨1, hwid l⟩, by subst h3; simp only [fin_agg, fin_tup, fin_int, fin_bool, fin_str, fin_slice, fin_fslice, fin_pptr, fin_ptr, fin_func, fin_map, fin_undef, fin_accV, tm_fin, List.map_cons, List.map_nil], h2⟩
 have hSD : ∀ o, Drops (st.upd b12 o) st := fun o => (Drops.refl _).upd h12
 generalize hX : (AO.cells [.slice (s.goals.map rgAv), .slice (arrN s.N s.σ), .slice (s.chs.map rcAv)]) = X at hV12 hb
 have hV12 := hV12.trans (congrArg some hX.symm)
 have hun : prog.underlying 39 = some (.slice 74) := by kernel_rfl
 have hlenA := accV_len (w := 1) (b := b) (l := out.map ansAv) hun
 rw [hlo] at hlenA
 cases hgs : s.goals with
 | nil =>
  rw [hgs] at hX hV12
  simp only [List.map_nil] at hX hV12
  rw [rRun_nil hgs] at tot
  simp -implicitDefEqProofs only [zy4, List.length_map, List.length_nil, List.length_cons, hlenA, hV12, accV_junk, accV_store, accV_agg, accV_cells, evF, ↓evZ, implies_true, seval, tf_R9_26]
  refine zq4 (fun h => ?_) (fun h => ?_)
  · have h' : out.length = most := by simp at h; omega
    rw [if_pos (by omega)] at tot
    simp -implicitDefEqProofs only [zy4, List.length_map, List.length_nil, List.length_cons, hlenA, hV12, accV_junk, accV_store, accV_agg, accV_cells, evF, ↓evZ, implies_true, seval, tf_R9_26]
    exact fin _ b out 1 hb (hSD _) (by rw [tot, List.append_nil])
  have h' : out.length < most := by simp at h; omega
  rw [if_neg (by omega)] at tot
  simp -implicitDefEqProofs only [zy4, List.length_map, List.length_nil, List.length_cons, hlenA, hV12, accV_junk, accV_store, accV_agg, accV_cells, evF, ↓evZ, implies_true, seval, tf_R9_26]
  refine (c_l6Answer (N := s.N) hok.a.good hok.a.ok vars (fun v h => ⟨(hv v h).1, by have := (hv v h).2; have := hok.l.1; omega⟩) hvl _).mono ?_
  rintro _ _ ⟨rfl, a, rfl, ha⟩
  cases hans : ansR s.σ vars with
  | none =>
   rw [hans] at tot
   simp only [Option.isSome_none, ansAv]
   simp -implicitDefEqProofs only [zy4, List.length_map, List.length_nil, List.length_cons, hlenA, hV12, accV_junk, accV_store, accV_agg, accV_cells, evF, ↓evZ, implies_true, seval, tf_R9_26]
   exact fin _ b out 3 hb (hSD _) (by rw [tot, List.append_nil])
  | some x =>
   obtain rfl := ha x hans
   rw [hans] at tot
   simp only [Option.isSome_some, ansAv] at tot ⊢
   simp -implicitDefEqProofs only [zy4, List.length_map, List.length_nil, List.length_cons, hlenA, hV12, accV_junk, accV_store, accV_agg, accV_cells, evF, ↓evZ, implies_true, seval, tf_R9_26]
   refine acc_append (P := prog) (b := b) (l := out.map ansAv) (xs := [ansAv a]) eI_39 eB_39 eZ_39 rfl rfl (by intro e he; simp only [List.mem_cons, List.not_mem_nil, or_false] at he; subst he; exact ⟨rfl, rfl⟩) (hwid out) hb (by simp only [List.length_cons, List.length_nil, hlo]; omega) (by simp only [List.length_cons, List.length_nil, hlo]; omega) (fun b' hb' => ?_)
   rw [show (out.map ansAv) ++ [ansAv a] = (out ++ [a]).map ansAv by simp] at hb' ⊢
   have hV12' := (accS_other hb' (zy7.upd_same st b12 X)).trans (congrArg some hX.symm)
   simp -implicitDefEqProofs only [zy4, List.length_map, List.length_nil, List.length_cons, hV12', accV_junk, accV_store, accV_agg, accV_cells, evF, ↓evZ, implies_true, seval, tf_R9_26]
   have hcast : (f : Int) = (f : Int) := rfl
   refine (c_l6Back hp (B := B) (by omega) [] (arrN s.N s.σ) s.chs hok.a.chl hok.a.chs _).mono ?_
   rintro r _ ⟨rfl, hr⟩
   cases hbk : rBack p s.chs.length s.chs with
   | none =>
    rw [hbk] at hr tot
    simp only at hr tot
    obtain ⟨l1, l2, l3, rfl⟩ := hr
    simp -implicitDefEqProofs only [zy4, List.length_map, List.length_nil, List.length_cons, hV12', accV_junk, accV_store, accV_agg, accV_cells, evF, ↓evZ, implies_true, seval, tf_R9_26]
    exact fin _ b' (out ++ [a]) 0 hb' (hSD _) (by rw [tot]; try rw [List.append_nil])
   | some s' =>
    rw [hbk] at hr tot
    simp only [rsAv] at hr tot
    subst hr
    simp -implicitDefEqProofs only [zy4, List.length_map, List.length_nil, List.length_cons, hV12', accV_junk, accV_store, accV_agg, accV_cells, evF, ↓evZ, implies_true, seval, tf_R9_26]
    rw [accS_updC (fun h => by rintro rfl; have := hb' h; rw [zy7.upd_same] at this; cases this), zy7.upd_upd]
    have hne : (out ++ [a]).map ansAv ≠ [] → b' ≠ b12 := fun h => by rintro rfl; have := hb' h; rw [zy7.upd_same] at this; cases this
    refine ⟨(s', out ++ [a], f, B, b'), by simp only [List.length_append, List.length_cons, List.length_nil]; omega, ⟨⟨by rw [tot]; try simp only [List.append_assoc, List.cons_append, List.nil_append, List.length_append, List.length_cons, List.length_nil, Nat.sub_sub]; try rfl, by simp only [List.length_append, List.length_cons, List.length_nil]; omega, hok.back hp (by omega) hbk, by simp only; omega⟩, fun h => by rw [zy7.upd_ne _ _ (hne h)]; have := hb' h; rwa [zy7.upd_ne _ _ (hne h)] at this⟩, zx7.mk (by simp -implicitDefEqProofs only [hcast, zy4, List.length_map, List.length_nil, List.length_cons, hV12', accV_junk, accV_store, accV_agg, accV_cells, evF, ↓evZ, implies_true, seval, tf_R9_26])⟩
 | cons g rest =>
  rw [hgs] at hX hV12
  rw [rRun_cons hgs] at tot
  simp -implicitDefEqProofs only [zy4, List.length_map, List.length_nil, List.length_cons, hlenA, hV12, accV_junk, accV_store, accV_agg, accV_cells, evF, ↓evZ, implies_true, seval, tf_R9_26]
  refine zq4 (fun h => absurd h (by simp; omega)) (fun h => ?_)
  simp -implicitDefEqProofs only [zy4, List.length_map, List.length_nil, List.length_cons, hlenA, hV12, accV_junk, accV_store, accV_agg, accV_cells, evF, ↓evZ, implies_true, seval, tf_R9_26]
  refine zq4 (fun h => ?_) (fun h => ?_)
  · have h' : f = 0 := by simp at h; omega
    rw [if_pos h'] at tot
    simp -implicitDefEqProofs only [zy4, List.length_map, List.length_nil, List.length_cons, hlenA, hV12, accV_junk, accV_store, accV_agg, accV_cells, evF, ↓evZ, implies_true, seval, tf_R9_26]
    exact fin _ b out 2 hb (hSD _) (by rw [tot, List.append_nil])
  have h' : f ≠ 0 := by simp at h; omega
  rw [if_neg h'] at tot
  have hw := wrap64 (n := (f : Int) - 1) (by omega) (by omega)
  simp -implicitDefEqProofs only [hw, zy4, List.length_map, List.length_nil, List.length_cons, hlenA, hV12, accV_junk, accV_store, accV_agg, accV_cells, evF, ↓evZ, implies_true, seval, tf_R9_26]
  have hst := c_l6Step hp (by omega) (B := B) (by omega) s.goals s.σ s.N s.chs g rest hgs hok.a hok.k
  rw [hgs, List.map_cons] at hst
  refine (hst _).mono ?_
  rintro r _ ⟨rfl, hr⟩
  have hse : (⟨g :: rest, s.σ, s.N, s.chs⟩ : RS) = s := by rw [← hgs]
  rw [hse] at hr
  cases hstep : rStep p (fun _ l => l) s g rest with
  | go s' =>
   rw [hstep] at hr tot
   simp only [StepR, rsAv] at hr tot
   subst hr
   simp -implicitDefEqProofs only [zy4, List.length_map, List.length_nil, List.length_cons, hlenA, hV12, accV_junk, accV_store, accV_agg, accV_cells, evE, ↓evZ2, ↓evZ3, ↓Int.cast_ofNat_Int, implies_true, zy2, aFn, List.contains, List.elem, zq3, zy1, zq2, sub, zx3, zw2, zw3, zy3, gd, zq1, zw0, zq0, zx0, zx2, zx1, zy0, zw1, List.range', ↓reduceIte, reduceCtorEq, Nat.reduceEqDiff, Nat.reduceAdd, Nat.reduceLeDiff, Nat.reduceMul, Nat.reduceLT, Nat.reduceBEq, Int.reduceEq, tf_R9_26]
   refine zq4 (fun h => absurd h (by decide)) (fun h => ?_)
   simp -implicitDefEqProofs only [zy4, List.length_map, List.length_nil, List.length_cons, hlenA, hV12, accV_junk, accV_store, accV_agg, accV_cells, evF, ↓evZ, implies_true, seval, tf_R9_26]
   rw [accS_updC hbc, zy7.upd_upd]
   have hcast : ((f - 1 : Nat) : Int) = (f : Int) - 1 := by omega
   refine ⟨(s', out, f - 1, B + 26, b), by simp only; omega, ⟨⟨tot, hlen, hok.step hp (by omega) (by omega) (cnd := fun _ l => l) (fun _ _ => ⟨fun _ h => h, Nat.le_refl _⟩) hgs hstep, by simp only; omega⟩, fun h => by rw [zy7.upd_ne _ _ (hbc h)]; have := hb h; rwa [zy7.upd_ne _ _ (hbc h)] at this⟩, zx7.mk (by simp -implicitDefEqProofs only [hcast, zy4, List.length_map, List.length_nil, List.length_cons, hlenA, hV12, accV_junk, accV_store, accV_agg, accV_cells, evF, ↓evZ, implies_true, seval, tf_R9_26])⟩
  | fail =>
   rw [hstep] at hr tot
   simp only [StepR] at hr tot
   obtain ⟨l1, l2, l3, rfl⟩ := hr
   simp -implicitDefEqProofs only [zy4, List.length_map, List.length_nil, List.length_cons, hlenA, hV12, accV_junk, accV_store, accV_agg, accV_cells, evE, ↓evZ2, ↓evZ3, ↓Int.cast_ofNat_Int, implies_true, zy2, aFn, List.contains, List.elem, zq3, zy1, zq2, sub, zx3, zw2, zw3, zy3, gd, zq1, zw0, zq0, zx0, zx2, zx1, zy0, zw1, List.range', ↓reduceIte, reduceCtorEq, Nat.reduceEqDiff, Nat.reduceAdd, Nat.reduceLeDiff, Nat.reduceMul, Nat.reduceLT, Nat.reduceBEq, Int.reduceEq, tf_R9_26]
   refine zq4 (fun h => absurd h (by decide)) (fun h => ?_)
   simp -implicitDefEqProofs only [zy4, List.length_map, List.length_nil, List.length_cons, hlenA, hV12, accV_junk, accV_store, accV_agg, accV_cells, evF, ↓evZ, implies_true, seval, tf_R9_26]
   have hcast : ((f - 1 : Nat) : Int) = (f : Int) - 1 := by omega
   refine (c_l6Back hp (B := B) (by omega) (g :: rest) (arrN s.N s.σ) s.chs hok.a.chl hok.a.chs _).mono ?_
   rintro r _ ⟨rfl, hr⟩
   cases hbk : rBack p s.chs.length s.chs with
   | none =>
    rw [hbk] at hr tot
    simp only at hr tot
    obtain ⟨l1, l2, l3, rfl⟩ := hr
    simp -implicitDefEqProofs only [zy4, List.length_map, List.length_nil, List.length_cons, hlenA, hV12, accV_junk, accV_store, accV_agg, accV_cells, evF, ↓evZ, implies_true, seval, tf_R9_26]
    exact fin _ b (out) 0 hb (hSD _) (by rw [tot]; try rw [List.append_nil])
   | some s' =>
    rw [hbk] at hr tot
    simp only [rsAv] at hr tot
    subst hr
    simp -implicitDefEqProofs only [zy4, List.length_map, List.length_nil, List.length_cons, hlenA, hV12, accV_junk, accV_store, accV_agg, accV_cells, evF, ↓evZ, implies_true, seval, tf_R9_26]
    rw [accS_updC (fun h => by rintro rfl; have := hb h; rw [zy7.upd_same] at this; cases this), zy7.upd_upd]
    have hne : (out).map ansAv ≠ [] → b ≠ b12 := fun h => by rintro rfl; have := hb h; rw [zy7.upd_same] at this; cases this
    refine ⟨(s', out, f - 1, B, b), by simp only [List.length_append, List.length_cons, List.length_nil]; omega, ⟨⟨by rw [tot]; try simp only [List.append_assoc, List.cons_append, List.nil_append, List.length_append, List.length_cons, List.length_nil, Nat.sub_sub]; try rfl, by simp only [List.length_append, List.length_cons, List.length_nil]; omega, hok.back hp (by omega) hbk, by simp only; omega⟩, fun h => by rw [zy7.upd_ne _ _ (hne h)]; have := hb h; rwa [zy7.upd_ne _ _ (hne h)] at this⟩, zx7.mk (by simp -implicitDefEqProofs only [hcast, zy4, List.length_map, List.length_nil, List.length_cons, hlenA, hV12, accV_junk, accV_store, accV_agg, accV_cells, evF, ↓evZ, implies_true, seval, tf_R9_26])⟩
  | stop e =>
   rw [hstep] at hr tot
   simp only [StepR] at hr tot
   obtain ⟨he0, l1, l2, l3, rfl⟩ := hr
   simp -implicitDefEqProofs only [zy4, List.length_map, List.length_nil, List.length_cons, hlenA, hV12, accV_junk, accV_store, accV_agg, accV_cells, evF, ↓evZ, implies_true, seval, tf_R9_26]
   refine zq4 (fun h => ?_) (fun h => absurd he0 (by simpa using h))
   simp -implicitDefEqProofs only [zy4, List.length_map, List.length_nil, List.length_cons, hlenA, hV12, accV_junk, accV_store, accV_agg, accV_cells, evF, ↓evZ, implies_true, seval, tf_R9_26]
   exact fin _ b out e hb (hSD _) (by rw [tot, List.append_nil])
end Go.AW
namespace Go.AW
def MadeT (st : zy7) (xs : List AV) (r : AV) (st' : zy7) : Prop := ∃ (os : List AV) (bs : List Nat), r = .tup os ∧ bs.Nodup ∧ (∀ b ∈ bs, st b = none) ∧ OwnL st' xs os bs ∧ ∀ b, b ∉ bs → st' b = st b
theorem OwnL.viewT {h : Heap} {st s0 : zy7} (S : SRel h st) (D : Drops st s0) : ∀ (xs os : List AV) (bs : List Nat) (vs : List Value), OwnL st xs os bs → (∀ b ∈ bs, s0 b = none) → VTs h st os vs → VTs h s0 xs vs
 | [], os, bs, vs, x, _, y => by simp only [OwnL] at x; rw [x.1] at y; exact y
 | a :: xs, os, bs, vs, x, hb, y => by
  simp only [OwnL] at x
  obtain ⟨o, os', b1, b2, rfl, rfl, x1, x2⟩ := x
  simp only [VTs] at y ⊢
  obtain ⟨v, r, e, ⟨y0, y1⟩, y2⟩ := y
  exact ⟨v, r, e, ⟨x1.shape.1.symm.trans y0, Own.view S D a o b1 _ x1 (fun q hq => hb q (by simp [hq])) y1⟩, OwnL.viewT S D xs os' b2 r x2 (fun q hq => hb q (by simp [hq])) y2⟩
theorem zq7.madeT {P : Program} {g : FuncId} {args : List AV} {st : zy7} {xs : List AV} (x : zq7 P g args st (MadeT st xs)) : zq7 P g args st (fun r st' => r = .tup xs ∧ st' = st) :=
 x.weak fun r st' ⟨os, bs, hr, _, h2, h3, h4⟩ => by
  have D : Drops st' st := fun b => ⟨fun e => by
   by_cases hb : b ∈ bs
   · exact h2 b hb
   · rw [← h4 b hb]; exact e, fun o e => by
   by_cases hb : b ∈ bs
   · rw [h2 b hb] at e; cases e
   · rw [h4 b hb]; exact e⟩
  refine ⟨.tup xs, st, D.weakS, fun h v S y => ?_, rfl, rfl⟩
  subst hr
  obtain ⟨y0, y1⟩ := y
  refine ⟨y0, ?_⟩
  unfold VC at y1 ⊢
  obtain ⟨vs, e, y2⟩ := y1
  exact ⟨vs, e, OwnL.viewT S D xs os bs vs h3 h2 y2⟩
theorem Own.one' {st : zy7} {es : List AV} {q : AV} {bs : List Nat} (h : Own st (.slice es) q bs) : q.cells = [q] ∧ q.storable = true ∧ q.isAgg = false ∧ q.width = 1 ∧ q.isJunk = false := by
 simp only [Own] at h
 rcases h with ⟨_, rfl, _⟩ | ⟨_, _, _, _, rfl, _⟩ <;> exact ⟨rfl, rfl, rfl, rfl, rfl⟩
theorem Own.fits {s : zy7} {a o : AV} {bs : List Nat} {w : Nat} (h : Own s a o bs) (hw : a.width = w) (hs : a.cells.all AV.storable = true) : o.width = w ∧ o.cells.length = w ∧ o.cells.all AV.storable = true ∧ o.isJunk = false ∧ o.isAgg = a.isAgg := by
 obtain ⟨h1, h2, h3⟩ := h.cellsFit hw hs
 exact ⟨h1, h2, h3, h.shape.2.2.1, h.shape.1⟩
theorem own_agg1 {s : zy7} {x o : AV} {bs : List Nat} : Own s (.agg [x]) o bs ↔ ∃ q, o = .agg [q] ∧ Own s x q bs := by
 simp only [Own, OwnL]
 constructor
 · rintro ⟨os, rfl, o1, os1, b1, b2, rfl, rfl, h, rfl, rfl⟩
   exact ⟨o1, rfl, by simpa using h⟩
 · rintro ⟨q, rfl, h⟩
   exact ⟨_, rfl, q, [], bs, [], rfl, by simp, h, rfl, rfl⟩
theorem ownL_2 {s : zy7} {x y : AV} {os : List AV} {bs : List Nat} : OwnL s [x, y] os bs ↔ ∃ o1 o2 b1 b2, os = [o1, o2] ∧ bs = b1 ++ b2 ∧ Own s x o1 b1 ∧ Own s y o2 b2 := by
 simp only [OwnL]
 constructor
 · rintro ⟨o1, os1, b1, b1', rfl, rfl, h1, o2, os2, b2, b2', rfl, rfl, h2, rfl, rfl⟩
   exact ⟨o1, o2, b1, b2, rfl, by simp, h1, h2⟩
 · rintro ⟨o1, o2, b1, b2, rfl, rfl, h1, h2⟩
   exact ⟨o1, [o2], b1, b2, rfl, rfl, h1, o2, [], b2, [], rfl, by simp, h2, rfl, rfl⟩
end Go.AW
namespace Go.AW
open Go.Proofs.Tryz

section
variable {S : zy7} {c b w : Nat} {hd tl l : List AV}
end
structure Ss where
 p : List Cl
 q : List Tm
 quota : Int
 used : Int
 sent : Int
 fin : Int
def ssAv (s : Ss) : AV := .agg [.slice (s.p.map clAv), .slice (s.q.map Tm.av), .int .i64 s.quota, .int .i64 s.used, .int .i64 s.sent, .int .i64 s.fin]

def solveOk (p : List Cl) (q : List Tm) (most fuel : Int) : Bool := progOk p && (queryOk q && (decide (0 ≤ most) && (decide (most ≤ 20) && (decide (0 ≤ fuel) && decide (fuel ≤ 300)))))
noncomputable def solveS (p : List Cl) (cnd : Tm → List Nat → List Nat) (q : List Tm) (most fuel : Int) : List (List Tm) × Int := if solveOk p q most fuel = true then solveR p cnd q most.toNat fuel.toNat else ([], 9)
theorem progOk_X {p : List Cl} (h : progOk p = true) : p.length ≤ 20 ∧ ∀ c ∈ p, ClX c ∧ c.2.length ≤ 6 := by
 simp only [progOk, Bool.and_eq_true, decide_eq_true_eq, List.all_eq_true] at h
 refine ⟨h.1, fun c hc => ⟨clOk_X (h.2 c hc), ?_⟩⟩
 have := h.2 c hc
 simp only [clOk, Bool.and_eq_true, decide_eq_true_eq, List.all_eq_true] at this
 exact this.2.1
theorem queryOk_X {q : List Tm} (h : queryOk q = true) : q.length ≤ 6 ∧ ∀ t ∈ q, OkX 26 t ∧ t.k = 3 := by
 simp only [queryOk, Bool.and_eq_true, decide_eq_true_eq, List.all_eq_true] at h
 refine ⟨h.1, fun t ht => ?_⟩
 have hg := h.2 t ht
 have hk : t.valid = true ∧ t.k = 3 := by
  obtain ⟨k, n, s, ts⟩ := t
  simp only [Tm.goal, Bool.and_eq_true] at hg
  refine ⟨hg.1, ?_⟩
  have := hg.2
  simp only [goalOk, plainGoal, Bool.or_eq_true, Bool.and_eq_true, decide_eq_true_eq] at this
  simp only [Tm.k]
  rcases this with (h | h) | h <;> first | exact h.1 | exact h.1.1 | exact h.1.1.1
 exact ⟨⟨Tm.valid_okV hk.1, Tm.valid_nodes hk.1⟩, hk.2⟩
end Go.AW
namespace Go.AW
def AnsOk (vars : List Int) (a : List Tm) : Prop := a.length = vars.length ∧ a.all Tm.valid = true
theorem ansR_ok {N : Nat} {σ : Sub} (hg : IsGood σ) (ho : AllS (OkX N) σ) {vars : List Int} (hv : ∀ v ∈ vars, 0 ≤ v ∧ v < (N : Int)) {a : List Tm} (h : ansR σ vars = some a) : AnsOk vars a := by
 obtain ⟨rk, B, G⟩ := hg.rs
 unfold ansR at h
 split at h
 · rename_i hh
   cases h
   obtain ⟨h1, h2⟩ := hh
   have hok : ∀ t ∈ vars.map (rs σ), OkX N t := fun t ht => by
    obtain ⟨v, hvm, rfl⟩ := List.mem_map.1 ht
    have hf := List.all_eq_true.1 h1 _ ht
    unfold fitT at hf
    simp only [Bool.and_eq_true, decide_eq_true_eq] at hf
    exact ⟨G.okV ho.okV v (hv v hvm).1 (hv v hvm).2, hf.2⟩
   exact ⟨by rw [renumL_one_ok hok, List.length_map], by rw [renumL_valid hok h1, decide_eq_true_eq]; exact h2⟩
 · cases h
theorem rRun_ok {p : List Cl} (hp : ∀ c ∈ p, ClX c ∧ c.2.length ≤ 6) (hpl : p.length ≤ 20) {cnd : Tm → List Nat → List Nat} (hd : ∀ t l, (∀ i ∈ cnd t l, i ∈ l) ∧ (cnd t l).length ≤ l.length) {vars : List Int} (hv : ∀ v ∈ vars, 0 ≤ v ∧ v < 26) :
 ∀ (n most fuel : Nat) (s : RS) (B : Nat), most + fuel ≤ n → RsA p B s → B + 26 * fuel ≤ 8000 → (rRun p cnd vars most fuel s).1.length ≤ most ∧ ∀ a ∈ (rRun p cnd vars most fuel s).1, AnsOk vars a := by
 intro n
 induction n with
 | zero =>
  intro most fuel s B hn hs hB
  obtain rfl : most = 0 := by omega
  obtain rfl : fuel = 0 := by omega
  cases hg : s.goals with
  | nil => rw [rRun_nil hg]; simp
  | cons g rest => rw [rRun_cons hg]; simp
 | succ n ih =>
  intro most fuel s B hn hs hB
  cases hg : s.goals with
  | nil =>
   rw [rRun_nil hg]
   by_cases hm : most = 0
   · rw [if_pos hm]; simp
   rw [if_neg hm]
   cases ha : ansR s.σ vars with
   | none => simp
   | some a =>
    have hok := ansR_ok hs.a.good hs.a.ok (fun v h => ⟨(hv v h).1, by have := (hv v h).2; have := hs.l.1; omega⟩) ha
    simp only
    cases hb : rBack p s.chs.length s.chs with
    | none =>
     simp only [List.length_cons, List.length_nil, List.mem_cons, List.not_mem_nil, or_false]
     exact ⟨by omega, fun x hx => by rw [hx]; exact hok⟩
    | some s' =>
     obtain ⟨h1, h2⟩ := ih (most - 1) fuel s' B (by omega) (hs.back hp (by omega) hb) hB
     simp only [List.length_cons, List.mem_cons]
     refine ⟨by omega, fun x hx => ?_⟩
     rcases hx with rfl | hx
     · exact hok
     · exact h2 x hx
  | cons g rest =>
   rw [rRun_cons hg]
   by_cases hf : fuel = 0
   · rw [if_pos hf]; simp
   rw [if_neg hf]
   cases hst : rStep p cnd s g rest with
   | stop e => simp
   | go s' => exact ih most (fuel - 1) s' (B + 26) (by omega) (hs.step hp (by omega) (by omega) hd hg hst) (by omega)
   | fail =>
    simp only
    cases hb : rBack p s.chs.length s.chs with
    | none => simp
    | some s' => exact ih most (fuel - 1) s' B (by omega) (hs.back hp (by omega) hb) (by omega)
theorem qvars_ok {q : List Tm} (hq : ∀ t ∈ q, OkX 26 t ∧ t.k = 3) : (∀ v ∈ tmsVars q [], 0 ≤ v ∧ v < 26) ∧ (tmsVars q []).length ≤ 26 := by
 have hv : ∀ v ∈ tmsVars q [], 0 ≤ v ∧ v < 26 := fun v hv => by
  rcases (tmsVars_mem q [] fun t ht => (hq t ht).1.1.2.1).1 hv with h | ⟨t, ht, h⟩
  · cases h
  · exact (hq t ht).1.1.2.2 v h
 refine ⟨hv, ?_⟩
 have hnd := tmsVars_nodup q [] (fun t ht => Tm.cv_wf t (hq t ht).1.1.2.1) List.nodup_nil
 exact nodup_VN (N := 26) hnd fun n hn => hv n hn
theorem solveS_ok (p : List Cl) {cnd : Tm → List Nat → List Nat} (hd : ∀ t l, (∀ i ∈ cnd t l, i ∈ l) ∧ (cnd t l).length ≤ l.length) (q : List Tm) (most fuel : Int) : (solveS p cnd q most fuel).1.length ≤ 20 ∧ ∀ a ∈ (solveS p cnd q most fuel).1, a.length ≤ 26 ∧ a.all Tm.valid = true := by
 unfold solveS
 split
 · rename_i h
   simp only [solveOk, Bool.and_eq_true, decide_eq_true_eq] at h
   obtain ⟨hp, hq, h1, h2, h3, h4⟩ := h
   obtain ⟨p1, p2⟩ := progOk_X hp
   obtain ⟨q1, q2⟩ := queryOk_X hq
   obtain ⟨v1, v2⟩ := qvars_ok q2
   obtain ⟨r1, r2⟩ := rRun_ok p2 p1 hd v1 _ most.toNat fuel.toNat (rStart q) 26 (Nat.le_refl _) (RsA.start q2 q1) (by omega)
   unfold solveR
   refine ⟨by omega, fun a ha => ?_⟩
   obtain ⟨h5, h6⟩ := r2 a ha
   exact ⟨by omega, h6⟩
 · simp
end Go.AW
namespace Go.AW
open Go.Proofs.Tryz
theorem MadeT.ofMadeI {st st' : zy7} {a o : AV} {k : IntKind} {n : Int} (h : Made st a o st') : MadeT st [a, .int k n] (.tup [o, .int k n]) st' := by
 obtain ⟨bs, h1, h2, h3, h4⟩ := h
 exact ⟨_, bs, rfl, h1, h2, ownL_2.2 ⟨o, .int k n, bs, [], rfl, by simp, h3, ⟨rfl, rfl⟩⟩, h4⟩
theorem MadeT.toMadeI {st st' : zy7} {a r : AV} {k : IntKind} {n : Int} (h : MadeT st [a, .int k n] r st') : ∃ o, r = .tup [o, .int k n] ∧ Made st a o st' := by
 obtain ⟨os, bs, hr, h1, h2, h3, h4⟩ := h
 obtain ⟨o1, o2, b1, b2, rfl, rfl, h5, h6⟩ := ownL_2.1 h3
 simp only [Own] at h6
 obtain ⟨rfl, rfl⟩ := h6
 rw [List.append_nil] at *
 exact ⟨o1, hr, b1, h1, h2, h5, h4⟩
structure Fill (st : zy7) (L : List AV) (b i : Nat) (os : List AV) (bs : List Nat) (s : zy7) : Prop where
 len : os.length = i
 own : OwnL s (L.take i) os bs
 nd : bs.Nodup
 new : ∀ q ∈ bs, st q = none
 bn : L ≠ [] → b ∉ bs
 cell : L ≠ [] → s b = some (.cells (os.flatMap AV.cells ++ (L.drop i).flatMap AV.cells))
 keep : ∀ q, q ∉ bs → (L ≠ [] → q ≠ b) → s q = st q
theorem Fill.start {st : zy7} {L : List AV} {b : Nat} : Fill st L b 0 [] [] (accS st b L) := by
 refine ⟨rfl, by simp [OwnL], List.nodup_nil, by simp, by simp, fun h => ?_, fun q _ h => ?_⟩
 · rw [accS_cons h, zy7.upd_same]; rfl
 · cases L with
   | nil => rfl
   | cons x l => exact accS_ne (h (by simp))
theorem Fill.done {st s : zy7} {L os : List AV} {b w : Nat} {bs : List Nat} (h : Fill st L b L.length os bs s) (hb : L ≠ [] → st b = none) (hw : ∀ e ∈ L, e.width = w) : Made st (.slice L) (accV w b L) s := by
 obtain ⟨h1, h2, h3, h4, h5, h6, h7⟩ := h
 rw [List.take_length] at h2
 by_cases hL : L = []
 · subst hL
   simp only [OwnL] at h2
   obtain ⟨rfl, rfl⟩ := h2
   exact ⟨[], List.nodup_nil, by simp, .inl ⟨rfl, rfl, rfl⟩, fun q hq => h7 q hq (fun h => absurd rfl h)⟩
 · refine ⟨b :: bs, List.nodup_cons.2 ⟨h5 hL, h3⟩, fun q hq => ?_, ?_, fun q hq => ?_⟩
   · rcases List.mem_cons.1 hq with rfl | hq
     · exact hb hL
     · exact h4 q hq
   · rw [accV_cons hL]
     refine .inr ⟨b, bs, os, w, rfl, rfl, ?_, h2, hw⟩
     have := h6 hL
     rw [List.drop_length] at this
     simpa using this
   · simp only [List.mem_cons, not_or] at hq
     exact h7 q hq.2 fun _ => hq.1
theorem Fill.step {st s s2 : zy7} {L os B : List AV} {b i : Nat} {bs bx : List Nat} {e r : AV} (h : Fill st L b i os bs s) (he : L[i]? = some (.agg [e])) (hB : (L.drop (i + 1)).flatMap AV.cells = B) (m1 : bx.Nodup) (m2 : ∀ q ∈ bx, s q = none) (m3 : Own s2 e r bx) (m4 : ∀ q, q ∉ bx → s2 q = s q) :
 Fill st L b (i + 1) (os ++ [.agg [r]]) (bs ++ bx) (s2.upd b (.cells (os.flatMap AV.cells ++ [r] ++ B))) := by
 obtain ⟨h1, h2, h3, h4, h5, h6, h7⟩ := h
 have hi : i < L.length := (List.getElem?_eq_some_iff.1 he).1
 have hL : L ≠ [] := by rintro rfl; simp at hi
 have hsol := OwnL.solid _ _ _ h2
 have hsome : ∀ q ∈ bs, s q ≠ none := fun q hq => by obtain ⟨cs, e1, _⟩ := hsol.2 q hq; rw [e1]; simp
 have hsb := h6 hL
 have hbx : b ∉ bx := fun hq => by have := m2 b hq; rw [hsb] at this; cases this
 have hdis : ∀ q ∈ bs, q ∉ bx := fun q hq hq' => hsome q hq (m2 q hq')
 have hbs : ∀ q ∈ bs, (s2.upd b (.cells (os.flatMap AV.cells ++ [r] ++ B))) q = s q := fun q hq => by
  rw [zy7.upd_ne _ _ (by rintro rfl; exact h5 hL hq), m4 q (hdis q hq)]
 refine ⟨by simp [h1], ?_, List.nodup_append.2 ⟨h3, m1, fun a ha c hc e => hdis a ha (e ▸ hc)⟩, fun q hq => ?_, fun _ hq => ?_, fun _ => ?_, fun q hq hne => ?_⟩
 · rw [List.take_add_one, he, Option.toList_some]
   refine h2.snoc hbs ?_
   refine own_agg1.2 ⟨r, rfl, Own.keep _ _ _ (fun x hx => ?_) m3⟩
   exact zy7.upd_ne _ _ (by rintro rfl; exact hbx hx)
 · rcases List.mem_append.1 hq with hq | hq
   · exact h4 q hq
   · have h8 : q ∉ bs := fun h => hdis q h hq
     have h9 : q ≠ b := by rintro rfl; exact hbx hq
     rw [← h7 q h8 fun _ => h9]
     exact m2 q hq
 · rcases List.mem_append.1 hq with hq | hq
   · exact h5 hL hq
   · exact hbx hq
 · rw [zy7.upd_same, hB]
   simp [AV.cells]
 · simp only [List.mem_append, not_or] at hq
   rw [zy7.upd_ne _ _ (hne hL), m4 q hq.2, h7 q hq.1 hne]
abbrev tf_T9_50 := zi tI_3 (zi zI_3 (zi underlying3 (zi tI_4 (zi zI_4 (zi underlying4 (zi tI_28 (zi zI_28 (zi eI_28 (zi eB_28 (zi eZ_28 (zi underlying28 (zi tI_29 (zi zI_29 (zi eI_29 (zi eB_29 (zi eZ_29 (zi underlying29 (zi tI_39 (zi zI_39 (zi eI_39 (zi eB_39 (zi eZ_39 (zi underlying39 (zi tI_74 (zi zI_74 (zi fI_74_0 (zi bI_74 (zi tI_107 zI_107))))))))))))))))))))))))))))
set_option maxHeartbeats 2000000 in
theorem c_impl_solve (p : List Cl) {cnd : Tm → List Nat → List Nat} (hc : ∀ (ρ : Int → Int) (t : Tm) (l : List Nat), cnd (ren ρ t) l = cnd t l) (hd : ∀ t l, (∀ i ∈ cnd t l, i ∈ l) ∧ (cnd t l).length ≤ l.length) {idx : Bool} (hcnd : CndOk p idx cnd) (hidx : idx = false)
 (q : List Tm) (most fuel : Int) (st : zy7) :
 zq7 prog 50 [.slice (p.map clAv), .slice (q.map Tm.av), .int .i64 most, .int .i64 fuel, .bool idx] st (MadeT st [.slice ((solveS p cnd q most fuel).1.map ansAv), .int .i64 (solveS p cnd q most fuel).2]) := by
 refine zq7.mono (Q := fun r st' => ∃ o, r = .tup [o, .int .i64 (solveS p cnd q most fuel).2] ∧ Made st (.slice ((solveS p cnd q most fuel).1.map ansAv)) o st') ?_ (by rintro _ _ ⟨o, rfl, h⟩; exact MadeT.ofMadeI h)
 have hcan := c_canSolve p q most fuel
 have hSok := solveS_ok p hd q most fuel
 refine wF [1000000] 5 func50 ntmps50 rfl rfl ?_
 intro _
 simp -implicitDefEqProofs only [List.length_map, evF, ↓evZ, implies_true, seval, tf_T9_50]
 refine (hcan _).to ?_
 simp -implicitDefEqProofs only [List.length_map, evF, ↓evZ, implies_true, seval, tf_T9_50]
 refine zq4 (fun h => ?_) (fun h => ?_)
 · have hS : solveS p cnd q most fuel = ([], 9) := by
    unfold solveS
    rw [if_neg (by have h' : solveOk p q most fuel = false := by unfold solveOk; simpa only [Bool.not_eq_true'] using h
                   rw [h']; simp)]
   rw [hS]
   simp -implicitDefEqProofs only [List.length_map, evF, ↓evZ, implies_true, seval, tf_T9_50]
   exact ⟨_, rfl, [], List.nodup_nil, by simp, .inl ⟨rfl, rfl, rfl⟩, fun _ _ => rfl⟩
 have hok : solveOk p q most fuel = true := by unfold solveOk; simpa using h
 have hk := hok
 simp only [solveOk, Bool.and_eq_true, decide_eq_true_eq] at hk
 obtain ⟨kp, kq, k1, k2, k3, k4⟩ := hk
 obtain ⟨p1, p2⟩ := progOk_X kp
 obtain ⟨q1, q2⟩ := queryOk_X kq
 have hTT : solveS p cnd q most fuel = iRun p cnd (tmsVars q []) most.toNat fuel.toNat (iStart q) := by
  unfold solveS
  rw [if_pos hok, solve_sim (fun c h => (p2 c h).1) hc q2]
 rw [hTT] at hSok ⊢
 clear hTT hcan hok h
 obtain ⟨mo, rfl⟩ := Int.eq_ofNat_of_zero_le k1
 obtain ⟨fu, rfl⟩ := Int.eq_ofNat_of_zero_le k3
 rw [Int.toNat_natCast, Int.toNat_natCast] at hSok ⊢
 simp -implicitDefEqProofs only [List.length_map, evF, ↓evZ, implies_true, seval, tf_T9_50]
 refine (c_newSearch p q (fu : Int) idx (by omega) st).mono ?_
 rintro _ s1 ⟨S, c, m, rfl, hA⟩
 simp -implicitDefEqProofs only [List.length_map, evF, ↓evZ, implies_true, seval, tf_T9_50]
 refine (c_run p2 p1 hc hd hcnd hidx q2 q1 (most := mo) (fuel := fu) (by omega) (by omega) hA).mono ?_
 generalize iRun p cnd (tmsVars q []) mo fu (iStart q) = T at hSok ⊢
 rintro _ _ ⟨b, s2, rfl, rfl, hb, hD⟩
 obtain ⟨L, e⟩ := T
 simp only at hSok hb ⊢
 have hb' : L.map ansAv ≠ [] → st b = none := fun h => (hD b).1 (hb h)
 have hun : prog.underlying 39 = some (.slice 74) := by kernel_rfl
 have hlenA := accV_len (w := 1) (b := b) (l := L.map ansAv) hun
 rw [List.length_map] at hlenA
 have hwd : ∀ e ∈ L.map ansAv, e.width = 1 := fun e he => by simp only [List.mem_map] at he; obtain ⟨t, _, rfl⟩ := he; rfl
 simp -implicitDefEqProofs only [List.length_map, hlenA, accV_junk, accV_store, accV_agg, accV_cells, evF, ↓evZ, implies_true, seval, tf_T9_50]
 refine zy5 (σ := List AV × List Nat × zy7) [1000000] [10, 11, 12, 13, 32, 33] L (fun j x => Fill st (L.map ansAv) b j x.1 x.2.1 x.2.2) (fun j x => [(34, .int .i64 j)]) (fun j x => x.2.2) (by decide +kernel) ⟨([], [], accS st b (L.map ansAv)), Fill.start, zx7.drop (drops_acc2 hD) (by simp -implicitDefEqProofs only [List.length_map, hlenA, accV_junk, accV_store, accV_agg, accV_cells, evF, ↓evZ, implies_true, seval, tf_T9_50])⟩ (fun j a x hx hlt hlt' hdr hinv => ?_) (fun x hge hinv => ?_)
 case refine_2 =>
  simp -implicitDefEqProofs only [hge, List.length_map, hlenA, accV_junk, accV_store, accV_agg, accV_cells, evF, ↓evZ, implies_true, seval, tf_T9_50]
  have hinv' : Fill st (L.map ansAv) b (L.map ansAv).length x.1 x.2.1 x.2.2 := by rw [List.length_map]; exact hinv
  exact ⟨_, rfl, hinv'.done hb' hwd⟩
 obtain ⟨os, bs, s⟩ := x
 simp only at hinv
 have hw := wrap64 (n := (j : Int) + 1) (by omega) (by omega)
 have hne : L.map ansAv ≠ [] := by intro h; have := congrArg List.length h; simp at this; subst this; simp at hlt
 have hget : (L.map ansAv)[j]? = some (.agg [.slice (a.map Tm.av)]) := by rw [List.getElem?_map, hx]; rfl
 have hc2 := hinv.cell hne
 have hdr2 : ((L.map ansAv).drop j).flatMap AV.cells = [.slice (a.map Tm.av)] ++ ((L.map ansAv).drop (j + 1)).flatMap AV.cells := by
  rw [← List.map_drop, hdr, List.map_cons, List.flatMap_cons, List.map_drop]; rfl
 rw [hdr2, ← List.append_assoc] at hc2
 have hA2 : (os.flatMap AV.cells).length = j * 1 := by
  rw [hinv.own.flatLen (fun q hq => hwd q (List.mem_of_mem_take hq)), List.length_take, List.length_map, Nat.min_eq_left (by omega)]
 obtain ⟨e1, e2, e3, e4, e5, e6⟩ := midE (B := ((L.map ansAv).drop (j + 1)).flatMap AV.cells) hA2
 have hat := held_at (P := prog) (b := b) (w := 1) (i := j) eI_39 (len := (L.map ansAv).length) (by rw [List.length_map]; omega)
 have htk : List.take 1 (List.drop (j * 1) (os.flatMap AV.cells ++ [.slice (a.map Tm.av)] ++ ((L.map ansAv).drop (j + 1)).flatMap AV.cells)) = [.slice (a.map Tm.av)] := by
  rw [List.append_assoc, List.drop_append, List.drop_of_length_le (by omega), hA2]
  simp
 obtain ⟨hal, hav⟩ := hSok.2 a (List.mem_of_getElem? hx)
 rw [accV_cons hne] at hlenA ⊢
 rw [List.length_map] at hat hlenA ⊢
 simp -implicitDefEqProofs only [hlt', List.length_map, hlenA, hat, hc2, htk, e1, e2, e3, e4, e5, e6, evF, ↓evZ, implies_true, seval, tf_T9_50]
 refine (o_ownList a _ (by omega) fun x hx s => o_own x s (Tm.valid_small (List.all_eq_true.1 hav x hx))).mono ?_
 rintro r s3 ⟨bx, m1, m2, m3, m4⟩
 have hbx : b ∉ bx := fun h => by have := m2 b h; rw [hc2] at this; cases this
 have f1 := (m4 b hbx).trans hc2
 obtain ⟨hqc, hqs, hqa, hqw, hqj⟩ := Own.one' m3
 simp -implicitDefEqProofs only [List.length_map, hlenA, hat, f1, hqc, hqs, hqa, hqw, hqj, e1, e2, e3, e4, e5, e6, Nat.add_zero, List.set_cons_zero, evF, ↓evZ, implies_true, seval, tf_T9_50]
 exact ⟨(os ++ [.agg [r]], bs ++ bx, s3.upd b (.cells (os.flatMap AV.cells ++ [r] ++ ((L.map ansAv).drop (j + 1)).flatMap AV.cells))), hinv.step hget rfl m1 m2 m3 m4, zx7.mk (by simp -implicitDefEqProofs only [hw, List.length_map, hlenA, hat, f1, hqc, hqs, hqa, hqw, hqj, e1, e2, e3, e4, e5, e6, Nat.add_zero, List.set_cons_zero, evF, ↓evZ, implies_true, seval, tf_T9_50])⟩
abbrev tf_T9_33 := zi tI_3 (zi zI_3 (zi underlying3 (zi tI_4 (zi zI_4 (zi underlying4 (zi tI_28 (zi zI_28 (zi eI_28 (zi eB_28 (zi eZ_28 (zi underlying28 (zi tI_29 (zi zI_29 (zi eI_29 (zi eB_29 (zi eZ_29 (zi underlying29 (zi tI_39 (zi zI_39 (zi eI_39 (zi eB_39 (zi eZ_39 underlying39))))))))))))))))))))))
theorem c_impl_Solve (p : List Cl) (q : List Tm) (most fuel : Int) (st : zy7) :
 zq7 prog 33 [.slice (p.map clAv), .slice (q.map Tm.av), .int .i64 most, .int .i64 fuel] st (MadeT st [.slice ((solveS p (fun _ l => l) q most fuel).1.map ansAv), .int .i64 (solveS p (fun _ l => l) q most fuel).2]) := by
 refine zq7.mono (Q := fun r st' => ∃ o, r = .tup [o, .int .i64 (solveS p (fun _ l => l) q most fuel).2] ∧ Made st (.slice ((solveS p (fun _ l => l) q most fuel).1.map ansAv)) o st') ?_ (by rintro _ _ ⟨o, rfl, h⟩; exact MadeT.ofMadeI h)
 refine wF [1000000] 4 func33 ntmps33 rfl rfl ?_
 intro _
 simp -implicitDefEqProofs only [List.length_map, evF, ↓evZ, implies_true, seval, tf_T9_33]
 refine (c_impl_solve p (cnd := fun _ l => l) (fun _ _ _ => rfl) (fun _ l => ⟨fun _ h => h, Nat.le_refl _⟩) (idx := false) (fun _ => rfl) rfl q most fuel st).mono ?_
 intro r s1 h
 obtain ⟨o, rfl, hM⟩ := h.toMadeI
 obtain ⟨hqc, hqs, hqa, hqw, hqj⟩ := Own.one' hM.choose_spec.2.2.1
 simp -implicitDefEqProofs only [List.length_map, hqc, hqs, hqa, hqw, hqj, evF, ↓evZ, implies_true, seval, tf_T9_33]
 exact ⟨_, rfl, hM⟩

abbrev tf_MkO_15 := zi tI_3 (zi zI_3 (zi underlying3 (zi tI_23 (zi zI_23 (zi eI_23 (zi eB_23 (zi eZ_23 (zi underlying23 (zi tI_29 (zi zI_29 (zi eI_29 (zi eB_29 (zi eZ_29 (zi underlying29 (zi tI_50 (zi zI_50 (zi fI_50_0 (zi fI_50_1 (zi fI_50_2 (zi fI_50_3 (zi bI_50 (zi tI_56 (zi zI_56 (zi fI_56_0 (zi fI_56_1 (zi fI_56_2 (zi fI_56_3 bI_56)))))))))))))))))))))))))))
theorem o_toTermS (l : List Tm) (st : zy7) (hb : l.length ≤ 1048576) (hc : ∀ x ∈ l, ∀ (st : zy7), zq7 prog 28 [Tm.av x] st (Made st (Tm.av x))) :
 zq7 prog 15 [.slice (l.map Tm.av)] st (Made st (.slice (l.map Tm.av))) := by
 refine wF [] 1 func15 ntmps15 rfl rfl ?_
 intro _
 simp -implicitDefEqProofs only [List.length_map, aMakeSlice, evF, ↓evZ, implies_true, seval, tf_MkO_15]
 refine ⟨by omega, by omega, by omega, ?_⟩
 intro b hn
 rw [Int.toNat_natCast, madeAV_eq _ (by simp)]
 refine zy5 (σ := List AV × List Nat × zy7) [] [0, 2, 3] l (fun i p => OwnTo (l.map Tm.av) [.int .i64 0, .int .i64 0, .str ⟨#[]⟩, .fslice []] b st i p) (fun i _ => [(4, .int .i64 i)]) (fun _ p => p.2.2) (by decide +kernel)
  ⟨([], [], _), ?_, zx7.mk (by simp -implicitDefEqProofs only [evF, ↓evZ, implies_true, seval, tf_MkO_15])⟩ (fun i x p hx hlt hlt' hdr hinv => ?_) (fun p hge hinv => ?_)
 · exact OwnTo.start hn (by rw [List.length_map])
 case refine_3 =>
  obtain ⟨os, bs, s⟩ := p
  simp -implicitDefEqProofs only [List.length_map, hge, evF, ↓evZ, implies_true, seval, tf_MkO_15]
  exact hinv.done (List.length_map _) (fun e he => by simp only [List.mem_map] at he; obtain ⟨t, _, rfl⟩ := he; exact Tm.av_width t)
 obtain ⟨os, bs, s⟩ := p
 simp -implicitDefEqProofs only [List.length_map, hlt', ev_at (av := Tm.av) eI_23 hx (Tm.av_width x), Tm.av_agg, Tm.av_width, evF, ↓evZ, implies_true, seval, tf_MkO_15]
 refine (hc x (List.mem_of_getElem? hx) _).mono ?_
 rintro r s2 hmade
 obtain ⟨A, B, hs2, hA, hrw, hrs, hnext⟩ := hinv.step hmade (show (l.map Tm.av)[i]? = some (Tm.av x) by rw [List.getElem?_map, hx]; rfl) (Tm.av_width x) (fun e he => by simp only [List.mem_map] at he; obtain ⟨t, _, rfl⟩ := he; exact Tm.av_width t) rfl (Tm.av_store x) (.inl (Tm.av_agg x))
 have hat := held_at (b := b) (len := l.length) (w := 4) (i := i) eI_29 hlt
 obtain ⟨hp1, hp2⟩ := partE (B := B) (C := [.int .i64 0, .int .i64 0, .str ⟨#[]⟩, .fslice []]) (x := r.cells) hA rfl hrw
 have hw := wrap64 (n := (i : Int) + 1) (by omega) (by omega)
 simp -implicitDefEqProofs only [hat, hs2, hrw, hrs, hp1, hw, evF, ↓evZ, implies_true, seval, tf_MkO_15]
 refine ⟨hp2, ?_⟩
 exact ⟨_, hnext, zx7.mk (by simp -implicitDefEqProofs only [evF, ↓evZ, implies_true, seval, tf_MkO_15])⟩
abbrev tf_MkO_28 := zi tI_3 (zi zI_3 (zi underlying3 (zi tI_9 (zi zI_9 (zi underlying9 (zi tI_23 (zi zI_23 (zi eI_23 (zi eB_23 (zi eZ_23 (zi underlying23 (zi tI_29 (zi zI_29 (zi eI_29 (zi eB_29 (zi eZ_29 (zi underlying29 (zi tI_50 (zi zI_50 (zi fI_50_0 (zi fI_50_1 (zi fI_50_2 (zi fI_50_3 (zi bI_50 (zi tI_56 (zi zI_56 (zi fI_56_0 (zi fI_56_1 (zi fI_56_2 (zi fI_56_3 bI_56))))))))))))))))))))))))))))))
theorem o_toTerm : ∀ (a : Tm) (st : zy7), a.sz ≤ 1048576 → zq7 prog 28 [a.av] st (Made st a.av)
 | .mk k n s ts, st, hb => by
  rw [Tm.sz_mk] at hb
  have hc := fun st => o_toTermS ts st (by omega) fun x hx st => o_toTerm x st (by have := sumL_mem (f := Tm.sz) hx; omega)
  refine zq7.madeJ ?_
  refine wF [] 1 func28 ntmps28 rfl rfl ?_
  intro _
  simp only [Tm.av_mk]
  simp -implicitDefEqProofs only [evF, ↓evZ, implies_true, seval, tf_MkO_28]
  intro b hb1 b2 hb2
  have hne : b2 ≠ b := by rintro rfl; rw [zy7.upd_same] at hb2; cases hb2
  have hn2 : st b2 = none := by rw [zy7.upd_ne st _ hne] at hb2; exact hb2
  simp -implicitDefEqProofs only [su_eq, hne, hne.symm, zy4, zy7.upd_upd, evF, ↓evZ, implies_true, seval, tf_MkO_28]
  refine (hc _).mono ?_
  rintro q s2 ⟨bs, m1, m2, m3, m4⟩
  have hbb : b ∉ bs := fun h => by have := m2 b h; simp [su_eq, hne, hne.symm] at this
  have hbb2 : b2 ∉ bs := fun h => by have := m2 b2 h; simp [su_eq] at this
  have e1 := m4 b hbb
  have e2 := m4 b2 hbb2
  simp only [su_eq, hne, hne.symm, if_true, if_false] at e1 e2
  have hqc : q.cells = [q] := by have := (Own.shape m3).1; cases q <;> first | rfl | simp [AV.isAgg] at this
  have hqs : q.storable = true := by
   have := m3
   simp only [Own] at this
   rcases this with ⟨_, rfl, _⟩ | ⟨_, _, _, _, rfl, _⟩ <;> rfl
  simp -implicitDefEqProofs only [su_eq, hne, hne.symm, e1, e2, hqc, hqs, zy4, zy7.upd_upd, evF, ↓evZ, implies_true, seval, tf_MkO_28]
  refine ⟨[b, b2], bs, m1, fun x hx => ?_, ?_, ?_, ?_⟩
  · have := m2 x hx
    have h1 : x ≠ b := fun e => hbb (e ▸ hx)
    have h2 : x ≠ b2 := fun e => hbb2 (e ▸ hx)
    simpa [su_eq, h1, h2] using this
  · simp [hb1, hn2, hbb, hbb2]
  · rw [← Tm.av_mk]
    refine own_Tm.2 ⟨q, rfl, Own.keep _ _ _ (fun x hx => ?_) m3⟩
    have h1 : x ≠ b := fun e => hbb (e ▸ hx)
    have h2 : x ≠ b2 := fun e => hbb2 (e ▸ hx)
    simp only [su_eq, h1, h2, if_false]
  · intro x hx hd
    simp only [List.mem_cons, List.not_mem_nil, or_false, not_or] at hd
    simp only [su_eq, hd.1, hd.2, if_false]
    rw [m4 x hx]
    simp only [su_eq, hd.1, hd.2, if_false]
termination_by a => SizeOf.sizeOf a
decreasing_by have := List.sizeOf_lt_of_mem hx; simp only [Tm.mk.sizeOf_spec]; omega
abbrev tf_Ts1_21 := zi tI_3 (zi zI_3 (zi underlying3 (zi tI_4 (zi zI_4 (zi underlying4 (zi tI_29 (zi zI_29 (zi eI_29 (zi eB_29 (zi eZ_29 (zi underlying29 (zi tI_56 (zi zI_56 (zi fI_56_0 (zi fI_56_1 (zi fI_56_2 (zi fI_56_3 bI_56)))))))))))))))))
theorem c_eqTermS (l l' : List Tm) (st : zy7) (hc : ∀ x ∈ l, ∀ (y : Tm) (st : zy7), zq7 prog 35 [Tm.av x, Tm.av y] st (fun r st' => r = .bool (Tm.same x y) ∧ st' = st)) :
 zq7 prog 21 [.slice (l.map Tm.av), .slice (l'.map Tm.av)] st (fun r st' => r = .bool (eqL Tm.same l l') ∧ st' = st) := by
 refine wF [] 2 func21 ntmps21 rfl rfl ?_
 simp only [fitsL, AV.fits, and_true, List.length_map]
 intro ⟨⟨hl, _⟩, ⟨hl', _⟩⟩
 simp -implicitDefEqProofs only [List.length_map, evF, ↓evZ, implies_true, seval, tf_Ts1_21]
 refine ⟨fun h4 => ?_, fun h4 => ?_⟩
 · simp -implicitDefEqProofs only [evF, ↓evZ, implies_true, seval, tf_Ts1_21]
   simp only [Bool.not_eq_true', decide_eq_false_iff_not] at h4
   rw [eqL_len _ (show l.length ≠ l'.length by omega)]
 simp -implicitDefEqProofs only [evF, ↓evZ, implies_true, seval, tf_Ts1_21]
 simp only [Bool.not_eq_false', decide_eq_true_eq] at h4
 have h4' : l.length = l'.length := by omega
 refine zy6 (α := Nat) [] (fun i => i ≤ l.length ∧ ∀ (j : Nat) (x y : Tm), j < i → l[j]? = some x → l'[j]? = some y → Tm.same x y = true)
  (fun i => [(0, .slice (l.map Tm.av)), (1, .slice (l'.map Tm.av)), (5, .int .i64 i)]) (fun _ => st) (fun i => l.length - i) (by decide +kernel)
  ⟨0, ⟨by omega, by intro j x y h; omega⟩, zx7.mk (by simp -implicitDefEqProofs only [evF, ↓evZ, implies_true, seval, tf_Ts1_21])⟩ ?_
 intro i ⟨hi, hall⟩
 simp -implicitDefEqProofs only [List.length_map, evF, ↓evZ, implies_true, seval, tf_Ts1_21]
 refine ⟨fun h5 => ?_, fun h5 => ?_⟩
 case refine_2 =>
  simp -implicitDefEqProofs only [evF, ↓evZ, implies_true, seval, tf_Ts1_21]
  simp only [decide_eq_false_iff_not, Int.ofNat_lt] at h5
  rw [eqL_all _ h4' (fun j x y h6 h7 => hall j x y (by have := (List.getElem?_eq_some_iff.1 h6).1; omega) h6 h7)]
 simp only [decide_eq_true_eq, Int.ofNat_lt] at h5
 obtain ⟨x, hx⟩ : ∃ x, l[i]? = some x := ⟨_, List.getElem?_eq_getElem h5⟩
 obtain ⟨y, hy⟩ : ∃ y, l'[i]? = some y := ⟨_, List.getElem?_eq_getElem (h4' ▸ h5)⟩
 simp -implicitDefEqProofs only [evF, ↓evZ, implies_true, seval, tf_Ts1_21]
 refine arun_drawP mixed (by decide +kernel) (by decide +kernel) ?_
 simp -implicitDefEqProofs only [ev_at (av := Tm.av) eI_29 hx (Tm.av_width x), ev_at (av := Tm.av) eI_29 hy (Tm.av_width y), Tm.av_agg, Tm.av_width, evF, ↓evZ, implies_true, seval, tf_Ts1_21]
 refine (hc x (List.mem_of_getElem? hx) y st).to ?_
 simp -implicitDefEqProofs only [evF, ↓evZ, implies_true, seval, tf_Ts1_21]
 refine ⟨fun h6 => ?_, fun h6 => ?_⟩
 · simp -implicitDefEqProofs only [evF, ↓evZ, implies_true, seval, tf_Ts1_21]
   have h7 : Tm.same x y = false := by simpa using h6
   rw [eqL_at _ i x y hx hy h7]
 have h7 : Tm.same x y = true := by simpa using h6
 simp -implicitDefEqProofs only [evF, ↓evZ, implies_true, seval, tf_Ts1_21]
 refine ⟨i + 1, by omega, ⟨by omega, fun j u v hj hu hv => ?_⟩, zx7.mk ?_⟩
 · rcases Nat.lt_or_ge j i with h8 | h8
   · exact hall j u v h8 hu hv
   · obtain rfl : j = i := by omega
     rw [hx] at hu; rw [hy] at hv; cases hu; cases hv; exact h7
 · have := wrap64 (n := (i : Int) + 1) (by omega) (by omega)
   simp -implicitDefEqProofs only [this, evF, ↓evZ, implies_true, seval, tf_Ts1_21]
abbrev tf_Ts1_10 := zi tI_3 (zi zI_3 (zi underlying3 (zi tI_23 (zi zI_23 (zi eI_23 (zi eB_23 (zi eZ_23 (zi underlying23 (zi tI_50 (zi zI_50 (zi fI_50_0 (zi fI_50_1 (zi fI_50_2 (zi fI_50_3 bI_50))))))))))))))
theorem c_szTermS (l : List Tm) (left : Int) (st : zy7) (h0 : 0 ≤ left) (h1 : left ≤ 1048576) (hc : ∀ x ∈ l, ∀ (left : Int) (st : zy7), 0 ≤ left → left ≤ 1048576 → zq7 prog 23 [Tm.av x, .int .i64 left] st (fun r st' => r = .int .i64 (szR left (Tm.sz x)) ∧ st' = st)) :
 zq7 prog 10 [.slice (l.map Tm.av), .int .i64 left] st (fun r st' => r = .int .i64 (szR left (l.length + sumL Tm.sz l)) ∧ st' = st) := by
 refine wF [] 2 func10 ntmps10 rfl rfl ?_
 simp only [fitsL, AV.fits, and_true, List.length_map]
 intro ⟨hl, _⟩
 have hw := wrap64 (n := left - (l.length : Int)) (by omega) (by omega)
 simp -implicitDefEqProofs only [List.length_map, hw, evF, ↓evZ, implies_true, seval, tf_Ts1_10]
 refine ⟨fun h4 => ?_, fun h4 => ?_⟩
 · simp -implicitDefEqProofs only [evF, ↓evZ, implies_true, seval, tf_Ts1_10]
   simp only [decide_eq_true_eq] at h4
   simp only [szR]
   rw [if_pos (by omega)]
 simp only [decide_eq_false_iff_not] at h4
 simp -implicitDefEqProofs only [evF, ↓evZ, implies_true, seval, tf_Ts1_10]
 refine zy6 (α := Nat) [] (fun i => i ≤ l.length ∧ ((l.length + sumL Tm.sz (l.take i) : Nat) : Int) ≤ left)
  (fun i => [(0, .slice (l.map Tm.av)), (1, .int .i64 (left - ((l.length + sumL Tm.sz (l.take i) : Nat) : Int))), (5, .int .i64 i)]) (fun _ => st) (fun i => l.length - i) (by decide +kernel)
  ⟨0, ⟨by omega, by simp only [List.take_zero, sumL]; omega⟩, zx7.mk (by simp -implicitDefEqProofs only [sumL, Nat.add_zero, evF, ↓evZ, implies_true, seval, tf_Ts1_10])⟩ ?_
 intro i ⟨hi, hle⟩
 simp -implicitDefEqProofs only [List.length_map, evF, ↓evZ, implies_true, seval, tf_Ts1_10]
 refine ⟨fun h5 => ?_, fun h5 => ?_⟩
 case refine_2 =>
  simp -implicitDefEqProofs only [evF, ↓evZ, implies_true, seval, tf_Ts1_10]
  simp only [decide_eq_false_iff_not, Int.ofNat_lt] at h5
  rw [show i = l.length by omega, List.take_length] at hle ⊢
  rw [szR_pos (by omega)]
 simp only [decide_eq_true_eq, Int.ofNat_lt] at h5
 obtain ⟨x, hx⟩ : ∃ x, l[i]? = some x := ⟨_, List.getElem?_eq_getElem h5⟩
 simp -implicitDefEqProofs only [ev_at (av := Tm.av) eI_23 hx (Tm.av_width x), Tm.av_agg, Tm.av_width, evF, ↓evZ, implies_true, seval, tf_Ts1_10]
 refine (hc x (List.mem_of_getElem? hx) _ st (by omega) (by omega)).to ?_
 have hs := sumL_take Tm.sz hx
 simp -implicitDefEqProofs only [evF, ↓evZ, implies_true, seval, tf_Ts1_10]
 refine ⟨fun h6 => ?_, fun h6 => ?_⟩
 · simp -implicitDefEqProofs only [evF, ↓evZ, implies_true, seval, tf_Ts1_10]
   simp only [decide_eq_true_eq, szR_neg] at h6
   simp only [szR]
   rw [if_pos (by omega)]
 simp only [decide_eq_false_iff_not, szR_neg] at h6
 rw [szR_pos h6]
 simp -implicitDefEqProofs only [evF, ↓evZ, implies_true, seval, tf_Ts1_10]
 refine ⟨i + 1, by omega, ⟨by omega, by omega⟩, zx7.mk ?_⟩
 · have := wrap64 (n := (i : Int) + 1) (by omega) (by omega)
   have e : (left - ((l.length + sumL Tm.sz (l.take (i + 1)) : Nat) : Int)) = left - ((l.length + sumL Tm.sz (l.take i) : Nat) : Int) - ((Tm.sz x : Nat) : Int) := by omega
   simp -implicitDefEqProofs only [this, e, evF, ↓evZ, implies_true, seval, tf_Ts1_10]
abbrev tf_Ts1_35 := zi tI_3 (zi zI_3 (zi underlying3 (zi tI_4 (zi zI_4 (zi underlying4 (zi tI_9 (zi zI_9 (zi underlying9 (zi tI_29 (zi zI_29 (zi eI_29 (zi eB_29 (zi eZ_29 (zi underlying29 (zi tI_56 (zi zI_56 (zi fI_56_0 (zi fI_56_1 (zi fI_56_2 (zi fI_56_3 bI_56))))))))))))))))))))
theorem c_eqTerm : ∀ (a b : Tm) (st : zy7), zq7 prog 35 [a.av, b.av] st (fun r st' => r = .bool (a.same b) ∧ st' = st)
 | .mk k n s ts, .mk k' n' s' ts', st => by
  have hc := c_eqTermS ts ts' st fun x hx y st => c_eqTerm x y st
  refine wF [] 2 func35 ntmps35 rfl rfl ?_
  intro _
  simp only [Tm.av_mk, Tm.same_mk]
  simp -implicitDefEqProofs only [evF, ↓evZ, implies_true, seval, tf_Ts1_35]
  refine ⟨fun h1 => ?_, fun h1 => ?_⟩
  · simp -implicitDefEqProofs only [evF, ↓evZ, implies_true, seval, tf_Ts1_35]
    simp only [Bool.not_eq_true'] at h1
    simp [h1]
  simp only [Bool.not_eq_false'] at h1
  simp -implicitDefEqProofs only [evF, ↓evZ, implies_true, seval, tf_Ts1_35]
  refine ⟨fun h2 => ?_, fun h2 => ?_⟩
  · simp -implicitDefEqProofs only [evF, ↓evZ, implies_true, seval, tf_Ts1_35]
    simp only [Bool.not_eq_true'] at h2
    simp [h2]
  simp only [Bool.not_eq_false'] at h2
  simp -implicitDefEqProofs only [evF, ↓evZ, implies_true, seval, tf_Ts1_35]
  refine ⟨fun h3 => ?_, fun h3 => ?_⟩
  · simp -implicitDefEqProofs only [evF, ↓evZ, implies_true, seval, tf_Ts1_35]
    simp only [Bool.not_eq_true'] at h3
    simp [h3]
  simp only [Bool.not_eq_false'] at h3
  simp -implicitDefEqProofs only [evF, ↓evZ, implies_true, seval, tf_Ts1_35]
  refine hc.to ?_
  simp -implicitDefEqProofs only [evF, ↓evZ, implies_true, seval, tf_Ts1_35]
  refine ⟨fun h4 => ?_, fun h4 => ?_⟩ <;> simp -implicitDefEqProofs only [evF, ↓evZ, implies_true, seval, tf_Ts1_35]
  · simp only [Bool.not_eq_true'] at h4
    simp [h4]
  · simp only [Bool.not_eq_false'] at h4
    simp [h1, h2, h3, h4]
termination_by a => SizeOf.sizeOf a
decreasing_by have := List.sizeOf_lt_of_mem hx; simp only [Tm.mk.sizeOf_spec]; omega
abbrev tf_Ts1_23 := zi tI_3 (zi zI_3 (zi underlying3 (zi tI_9 (zi zI_9 (zi underlying9 (zi tI_23 (zi zI_23 (zi eI_23 (zi eB_23 (zi eZ_23 (zi underlying23 (zi tI_50 (zi zI_50 (zi fI_50_0 (zi fI_50_1 (zi fI_50_2 (zi fI_50_3 bI_50)))))))))))))))))
theorem c_szTerm : ∀ (a : Tm) (left : Int) (st : zy7), 0 ≤ left → left ≤ 1048576 → zq7 prog 23 [a.av, .int .i64 left] st (fun r st' => r = .int .i64 (szR left a.sz) ∧ st' = st)
 | .mk k n s ts, left, st, h0, h1 => by
  have hc := fun (left : Int) h0 h1 => c_szTermS ts left st h0 h1 fun x hx left st h0 h1 => c_szTerm x left st h0 h1
  refine wF [] 2 func23 ntmps23 rfl rfl ?_
  simp only [Tm.av_mk, Tm.sz_mk, fitsL, AV.fits, and_true]
  intro ⟨_, _, hs, _⟩
  have hw := wrap64 (n := left - (s.size : Int)) (by omega) (by omega)
  simp -implicitDefEqProofs only [hw, evF, ↓evZ, implies_true, seval, tf_Ts1_23]
  refine ⟨fun h2 => ?_, fun h2 => ?_⟩
  · simp -implicitDefEqProofs only [evF, ↓evZ, implies_true, seval, tf_Ts1_23]
    simp only [decide_eq_true_eq] at h2
    simp only [szR]
    rw [if_pos (by omega)]
  simp only [decide_eq_false_iff_not] at h2
  simp -implicitDefEqProofs only [evF, ↓evZ, implies_true, seval, tf_Ts1_23]
  refine (hc _ (by omega) (by omega)).to ?_
  simp -implicitDefEqProofs only [evF, ↓evZ, implies_true, seval, tf_Ts1_23]
  refine ⟨fun h3 => ?_, fun h3 => ?_⟩
  · simp -implicitDefEqProofs only [evF, ↓evZ, implies_true, seval, tf_Ts1_23]
    simp only [decide_eq_true_eq, szR_neg] at h3
    simp only [szR]
    rw [if_pos (by omega)]
  simp only [decide_eq_false_iff_not, szR_neg] at h3
  simp -implicitDefEqProofs only [evF, ↓evZ, implies_true, seval, tf_Ts1_23]
  rw [szR_pos h3, szR_pos (by omega)]
  simp only [AV.int.injEq, true_and, and_true]
  omega
termination_by a => SizeOf.sizeOf a
decreasing_by have := List.sizeOf_lt_of_mem hx; simp only [Tm.mk.sizeOf_spec]; omega

abbrev szL (l : List Tm) : Nat := l.length + sumL Tm.sz l
theorem c_szTermS' (l : List Tm) (left : Int) (st : zy7) (h0 : 0 ≤ left) (h1 : left ≤ 1048576) : zq7 prog 10 [.slice (l.map Tm.av), .int .i64 left] st (fun r st' => r = .int .i64 (szR left (szL l)) ∧ st' = st) :=
 c_szTermS l left st h0 h1 fun x _ left st h0 h1 => c_szTerm x left st h0 h1
theorem c_eqTermS' (l : List Tm) (st : zy7) : zq7 prog 21 [.slice (l.map Tm.av), .slice (l.map Tm.av)] st (fun r st' => r = .bool true ∧ st' = st) := by
 refine (c_eqTermS l l st fun x _ y st => c_eqTerm x y st).mono ?_
 rintro _ _ ⟨rfl, rfl⟩
 refine ⟨?_, rfl⟩
 rw [(eqL_eq (fun x _ y => Tm.same_eq x y)).2 rfl]
theorem sz_mem {l : List Tm} {x : Tm} (hx : x ∈ l) : x.sz ≤ szL l := by have := sumL_mem (f := Tm.sz) hx; unfold szL; omega
theorem o_toTermS' (l : List Tm) (st : zy7) (hb : szL l ≤ 1048576) : zq7 prog 15 [.slice (l.map Tm.av)] st (Made st (.slice (l.map Tm.av))) :=
 o_toTermS l st (by unfold szL at hb; omega) fun x hx st => o_toTerm x st (by have := sz_mem hx; omega)
abbrev tf_C1_20 := zi tI_3 (zi zI_3 (zi underlying3 (zi tI_4 (zi zI_4 (zi underlying4 (zi tI_28 (zi zI_28 (zi eI_28 (zi eB_28 (zi eZ_28 (zi underlying28 (zi tI_58 (zi zI_58 (zi fI_58_0 (zi fI_58_1 bI_58)))))))))))))))
theorem c_eqClauseS (l l' : List Cl) (st : zy7) (hc : ∀ x ∈ l, ∀ (y : Cl) (st : zy7), zq7 prog 34 [clAv x, clAv y] st (fun r st' => r = .bool (clSame x y) ∧ st' = st)) :
 zq7 prog 20 [.slice (l.map clAv), .slice (l'.map clAv)] st (fun r st' => r = .bool (eqL clSame l l') ∧ st' = st) := by
 refine wF [] 2 func20 ntmps20 rfl rfl ?_
 simp only [fitsL, AV.fits, and_true, List.length_map]
 intro ⟨⟨hl, _⟩, ⟨hl', _⟩⟩
 simp -implicitDefEqProofs only [List.length_map, evF, ↓evZ, implies_true, seval, tf_C1_20]
 refine ⟨fun h4 => ?_, fun h4 => ?_⟩
 · simp -implicitDefEqProofs only [evF, ↓evZ, implies_true, seval, tf_C1_20]
   simp only [Bool.not_eq_true', decide_eq_false_iff_not] at h4
   rw [eqL_len _ (show l.length ≠ l'.length by omega)]
 simp -implicitDefEqProofs only [evF, ↓evZ, implies_true, seval, tf_C1_20]
 simp only [Bool.not_eq_false', decide_eq_true_eq] at h4
 have h4' : l.length = l'.length := by omega
 refine zy6 (α := Nat) [] (fun i => i ≤ l.length ∧ ∀ (j : Nat) (x y : Cl), j < i → l[j]? = some x → l'[j]? = some y → clSame x y = true)
  (fun i => [(0, .slice (l.map clAv)), (1, .slice (l'.map clAv)), (5, .int .i64 i)]) (fun _ => st) (fun i => l.length - i) (by decide +kernel)
  ⟨0, ⟨by omega, by intro j x y h; omega⟩, zx7.mk (by simp -implicitDefEqProofs only [evF, ↓evZ, implies_true, seval, tf_C1_20])⟩ ?_
 intro i ⟨hi, hall⟩
 simp -implicitDefEqProofs only [List.length_map, evF, ↓evZ, implies_true, seval, tf_C1_20]
 refine ⟨fun h5 => ?_, fun h5 => ?_⟩
 case refine_2 =>
  simp -implicitDefEqProofs only [evF, ↓evZ, implies_true, seval, tf_C1_20]
  simp only [decide_eq_false_iff_not, Int.ofNat_lt] at h5
  rw [eqL_all _ h4' (fun j x y h6 h7 => hall j x y (by have := (List.getElem?_eq_some_iff.1 h6).1; omega) h6 h7)]
 simp only [decide_eq_true_eq, Int.ofNat_lt] at h5
 obtain ⟨x, hx⟩ : ∃ x, l[i]? = some x := ⟨_, List.getElem?_eq_getElem h5⟩
 obtain ⟨y, hy⟩ : ∃ y, l'[i]? = some y := ⟨_, List.getElem?_eq_getElem (h4' ▸ h5)⟩
 simp -implicitDefEqProofs only [evF, ↓evZ, implies_true, seval, tf_C1_20]
 refine arun_drawP mixed (by decide +kernel) (by decide +kernel) ?_
 simp -implicitDefEqProofs only [ev_at (av := clAv) eI_28 hx (clAv_width x), ev_at (av := clAv) eI_28 hy (clAv_width y), clAv_agg, clAv_width, evF, ↓evZ, implies_true, seval, tf_C1_20]
 refine (hc x (List.mem_of_getElem? hx) y st).to ?_
 simp -implicitDefEqProofs only [evF, ↓evZ, implies_true, seval, tf_C1_20]
 refine ⟨fun h6 => ?_, fun h6 => ?_⟩
 · simp -implicitDefEqProofs only [evF, ↓evZ, implies_true, seval, tf_C1_20]
   have h7 : clSame x y = false := by simpa using h6
   rw [eqL_at _ i x y hx hy h7]
 have h7 : clSame x y = true := by simpa using h6
 simp -implicitDefEqProofs only [evF, ↓evZ, implies_true, seval, tf_C1_20]
 refine ⟨i + 1, by omega, ⟨by omega, fun j u v hj hu hv => ?_⟩, zx7.mk ?_⟩
 · rcases Nat.lt_or_ge j i with h8 | h8
   · exact hall j u v h8 hu hv
   · obtain rfl : j = i := by omega
     rw [hx] at hu; rw [hy] at hv; cases hu; cases hv; exact h7
 · have := wrap64 (n := (i : Int) + 1) (by omega) (by omega)
   simp -implicitDefEqProofs only [this, evF, ↓evZ, implies_true, seval, tf_C1_20]
abbrev tf_C1_9 := zi tI_3 (zi zI_3 (zi underlying3 (zi tI_22 (zi zI_22 (zi eI_22 (zi eB_22 (zi eZ_22 (zi underlying22 (zi tI_52 (zi zI_52 (zi fI_52_0 (zi fI_52_1 bI_52))))))))))))
theorem c_szClauseS (l : List Cl) (left : Int) (st : zy7) (h0 : 0 ≤ left) (h1 : left ≤ 1048576) (hc : ∀ x ∈ l, ∀ (left : Int) (st : zy7), 0 ≤ left → left ≤ 1048576 → zq7 prog 22 [clAv x, .int .i64 left] st (fun r st' => r = .int .i64 (szR left (clSz x)) ∧ st' = st)) :
 zq7 prog 9 [.slice (l.map clAv), .int .i64 left] st (fun r st' => r = .int .i64 (szR left (l.length + sumL clSz l)) ∧ st' = st) := by
 refine wF [] 2 func9 ntmps9 rfl rfl ?_
 simp only [fitsL, AV.fits, and_true, List.length_map]
 intro ⟨hl, _⟩
 have hw := wrap64 (n := left - (l.length : Int)) (by omega) (by omega)
 simp -implicitDefEqProofs only [List.length_map, hw, evF, ↓evZ, implies_true, seval, tf_C1_9]
 refine ⟨fun h4 => ?_, fun h4 => ?_⟩
 · simp -implicitDefEqProofs only [evF, ↓evZ, implies_true, seval, tf_C1_9]
   simp only [decide_eq_true_eq] at h4
   simp only [szR]
   rw [if_pos (by omega)]
 simp only [decide_eq_false_iff_not] at h4
 simp -implicitDefEqProofs only [evF, ↓evZ, implies_true, seval, tf_C1_9]
 refine zy6 (α := Nat) [] (fun i => i ≤ l.length ∧ ((l.length + sumL clSz (l.take i) : Nat) : Int) ≤ left)
  (fun i => [(0, .slice (l.map clAv)), (1, .int .i64 (left - ((l.length + sumL clSz (l.take i) : Nat) : Int))), (5, .int .i64 i)]) (fun _ => st) (fun i => l.length - i) (by decide +kernel)
  ⟨0, ⟨by omega, by simp only [List.take_zero, sumL]; omega⟩, zx7.mk (by simp -implicitDefEqProofs only [sumL, Nat.add_zero, evF, ↓evZ, implies_true, seval, tf_C1_9])⟩ ?_
 intro i ⟨hi, hle⟩
 simp -implicitDefEqProofs only [List.length_map, evF, ↓evZ, implies_true, seval, tf_C1_9]
 refine ⟨fun h5 => ?_, fun h5 => ?_⟩
 case refine_2 =>
  simp -implicitDefEqProofs only [evF, ↓evZ, implies_true, seval, tf_C1_9]
  simp only [decide_eq_false_iff_not, Int.ofNat_lt] at h5
  rw [show i = l.length by omega, List.take_length] at hle ⊢
  rw [szR_pos (by omega)]
 simp only [decide_eq_true_eq, Int.ofNat_lt] at h5
 obtain ⟨x, hx⟩ : ∃ x, l[i]? = some x := ⟨_, List.getElem?_eq_getElem h5⟩
 simp -implicitDefEqProofs only [ev_at (av := clAv) eI_22 hx (clAv_width x), clAv_agg, clAv_width, evF, ↓evZ, implies_true, seval, tf_C1_9]
 refine (hc x (List.mem_of_getElem? hx) _ st (by omega) (by omega)).to ?_
 have hs := sumL_take clSz hx
 simp -implicitDefEqProofs only [evF, ↓evZ, implies_true, seval, tf_C1_9]
 refine ⟨fun h6 => ?_, fun h6 => ?_⟩
 · simp -implicitDefEqProofs only [evF, ↓evZ, implies_true, seval, tf_C1_9]
   simp only [decide_eq_true_eq, szR_neg] at h6
   simp only [szR]
   rw [if_pos (by omega)]
 simp only [decide_eq_false_iff_not, szR_neg] at h6
 rw [szR_pos h6]
 simp -implicitDefEqProofs only [evF, ↓evZ, implies_true, seval, tf_C1_9]
 refine ⟨i + 1, by omega, ⟨by omega, by omega⟩, zx7.mk ?_⟩
 · have := wrap64 (n := (i : Int) + 1) (by omega) (by omega)
   have e : (left - ((l.length + sumL clSz (l.take (i + 1)) : Nat) : Int)) = left - ((l.length + sumL clSz (l.take i) : Nat) : Int) - ((clSz x : Nat) : Int) := by omega
   simp -implicitDefEqProofs only [this, e, evF, ↓evZ, implies_true, seval, tf_C1_9]
abbrev tf_C1_14 := zi tI_3 (zi zI_3 (zi underlying3 (zi tI_22 (zi zI_22 (zi eI_22 (zi eB_22 (zi eZ_22 (zi underlying22 (zi tI_28 (zi zI_28 (zi eI_28 (zi eB_28 (zi eZ_28 (zi underlying28 (zi tI_52 (zi zI_52 (zi fI_52_0 (zi fI_52_1 (zi bI_52 (zi tI_58 (zi zI_58 (zi fI_58_0 (zi fI_58_1 bI_58)))))))))))))))))))))))
theorem o_toClauseS (l : List Cl) (st : zy7) (hb : l.length ≤ 1048576) (hc : ∀ x ∈ l, ∀ (st : zy7), zq7 prog 27 [clAv x] st (Made st (clAv x))) :
 zq7 prog 14 [.slice (l.map clAv)] st (Made st (.slice (l.map clAv))) := by
 refine wF [] 1 func14 ntmps14 rfl rfl ?_
 intro _
 simp -implicitDefEqProofs only [List.length_map, aMakeSlice, evF, ↓evZ, implies_true, seval, tf_C1_14]
 refine ⟨by omega, by omega, by omega, ?_⟩
 intro b hn
 rw [Int.toNat_natCast, madeAV_eq _ (by simp)]
 refine zy5 (σ := List AV × List Nat × zy7) [] [0, 2, 3] l (fun i p => OwnTo (l.map clAv) [.int .i64 0, .int .i64 0, .str ⟨#[]⟩, .fslice [], .fslice []] b st i p) (fun i _ => [(4, .int .i64 i)]) (fun _ p => p.2.2) (by decide +kernel)
  ⟨([], [], _), ?_, zx7.mk (by simp -implicitDefEqProofs only [evF, ↓evZ, implies_true, seval, tf_C1_14])⟩ (fun i x p hx hlt hlt' hdr hinv => ?_) (fun p hge hinv => ?_)
 · exact OwnTo.start hn (by rw [List.length_map])
 case refine_3 =>
  obtain ⟨os, bs, s⟩ := p
  simp -implicitDefEqProofs only [List.length_map, hge, evF, ↓evZ, implies_true, seval, tf_C1_14]
  exact hinv.done (List.length_map _) (fun e he => by simp only [List.mem_map] at he; obtain ⟨t, _, rfl⟩ := he; exact clAv_width t)
 obtain ⟨os, bs, s⟩ := p
 simp -implicitDefEqProofs only [List.length_map, hlt', ev_at (av := clAv) eI_22 hx (clAv_width x), clAv_agg, clAv_width, evF, ↓evZ, implies_true, seval, tf_C1_14]
 refine (hc x (List.mem_of_getElem? hx) _).mono ?_
 rintro r s2 hmade
 obtain ⟨A, B, hs2, hA, hrw, hrs, hnext⟩ := hinv.step hmade (show (l.map clAv)[i]? = some (clAv x) by rw [List.getElem?_map, hx]; rfl) (clAv_width x) (fun e he => by simp only [List.mem_map] at he; obtain ⟨t, _, rfl⟩ := he; exact clAv_width t) rfl (clAv_store x) (.inl (clAv_agg x))
 have hat := held_at (b := b) (len := l.length) (w := 5) (i := i) eI_28 hlt
 obtain ⟨hp1, hp2⟩ := partE (B := B) (C := [.int .i64 0, .int .i64 0, .str ⟨#[]⟩, .fslice [], .fslice []]) (x := r.cells) hA rfl hrw
 have hw := wrap64 (n := (i : Int) + 1) (by omega) (by omega)
 simp -implicitDefEqProofs only [hat, hs2, hrw, hrs, hp1, hw, evF, ↓evZ, implies_true, seval, tf_C1_14]
 refine ⟨hp2, ?_⟩
 exact ⟨_, hnext, zx7.mk (by simp -implicitDefEqProofs only [evF, ↓evZ, implies_true, seval, tf_C1_14])⟩
abbrev tf_C1_34 := zi tI_4 (zi zI_4 (zi underlying4 (zi tI_29 (zi zI_29 (zi eI_29 (zi eB_29 (zi eZ_29 (zi underlying29 (zi tI_56 (zi zI_56 (zi fI_56_0 (zi fI_56_1 (zi fI_56_2 (zi fI_56_3 (zi bI_56 (zi tI_58 (zi zI_58 (zi fI_58_0 (zi fI_58_1 bI_58)))))))))))))))))))
theorem c_eqClause (x y : Cl) (st : zy7) : zq7 prog 34 [clAv x, clAv y] st (fun r st' => r = .bool (clSame x y) ∧ st' = st) := by
 obtain ⟨⟨k, n, s, ts⟩, b⟩ := x
 obtain ⟨⟨k', n', s', ts'⟩, b'⟩ := y
 have hg := fun st => c_eqTerm (.mk k n s ts) (.mk k' n' s' ts') st
 simp only [Tm.av_mk] at hg
 have hc := fun st => c_eqTermS b b' st fun x _ y st => c_eqTerm x y st
 simp only [clAv_mk]
 refine wF [1000000] 2 func34 ntmps34 rfl rfl ?_
 intro _
 simp -implicitDefEqProofs only [evF, ↓evZ, implies_true, seval, tf_C1_34]
 refine (hg _).to ?_
 simp only [clSame]
 simp -implicitDefEqProofs only [evF, ↓evZ, implies_true, seval, tf_C1_34]
 refine zq4 (fun h1 => ?_) (fun h1 => ?_)
 · simp -implicitDefEqProofs only [evF, ↓evZ, implies_true, seval, tf_C1_34]
   simp only [Bool.not_eq_true'] at h1
   simp [h1]
 simp only [Bool.not_eq_false'] at h1
 simp -implicitDefEqProofs only [evF, ↓evZ, implies_true, seval, tf_C1_34]
 refine (hc _).to ?_
 simp -implicitDefEqProofs only [evF, ↓evZ, implies_true, seval, tf_C1_34]
 refine zq4 (fun h2 => ?_) (fun h2 => ?_) <;> simp -implicitDefEqProofs only [evF, ↓evZ, implies_true, seval, tf_C1_34]
 · simp only [Bool.not_eq_true'] at h2
   simp [h2]
 · simp only [Bool.not_eq_false'] at h2
   simp [h1, h2]
abbrev tf_C1_22 := zi tI_3 (zi zI_3 (zi underlying3 (zi tI_23 (zi zI_23 (zi eI_23 (zi eB_23 (zi eZ_23 (zi underlying23 (zi tI_50 (zi zI_50 (zi fI_50_0 (zi fI_50_1 (zi fI_50_2 (zi fI_50_3 (zi bI_50 (zi tI_52 (zi zI_52 (zi fI_52_0 (zi fI_52_1 bI_52)))))))))))))))))))
theorem c_szClause (c : Cl) (left : Int) (st : zy7) (h0 : 0 ≤ left) (h1 : left ≤ 1048576) : zq7 prog 22 [clAv c, .int .i64 left] st (fun r st' => r = .int .i64 (szR left (clSz c)) ∧ st' = st) := by
 obtain ⟨⟨k, n, s, ts⟩, b⟩ := c
 have hg := fun st => c_szTerm (.mk k n s ts) left st h0 h1
 simp only [Tm.av_mk] at hg
 simp only [clAv_mk, clSz]
 generalize (Tm.mk k n s ts).sz = z at hg ⊢
 have hsl : szL b = b.length + sumL Tm.sz b := rfl
 refine wF [1000000] 2 func22 ntmps22 rfl rfl ?_
 intro _
 simp -implicitDefEqProofs only [evF, ↓evZ, implies_true, seval, tf_C1_22]
 refine (hg _).to ?_
 simp -implicitDefEqProofs only [evF, ↓evZ, implies_true, seval, tf_C1_22]
 refine zq4 (fun h2 => ?_) (fun h2 => ?_)
 · simp -implicitDefEqProofs only [evF, ↓evZ, implies_true, seval, tf_C1_22]
   simp only [decide_eq_true_eq, szR_neg] at h2
   simp only [szR]
   rw [if_pos (by omega)]
 simp only [decide_eq_false_iff_not, szR_neg] at h2
 rw [szR_pos h2]
 simp -implicitDefEqProofs only [evF, ↓evZ, implies_true, seval, tf_C1_22]
 refine (c_szTermS' b _ _ (by omega) (by omega)).to ?_
 simp -implicitDefEqProofs only [evF, ↓evZ, implies_true, seval, tf_C1_22]
 refine zq4 (fun h3 => ?_) (fun h3 => ?_)
 · simp -implicitDefEqProofs only [evF, ↓evZ, implies_true, seval, tf_C1_22]
   simp only [decide_eq_true_eq, szR_neg] at h3
   simp only [szR]
   rw [if_pos (by omega)]
 · simp -implicitDefEqProofs only [evF, ↓evZ, implies_true, seval, tf_C1_22]
   simp only [decide_eq_false_iff_not, szR_neg] at h3
   rw [szR_pos h3, szR_pos (by omega)]
   congr 1
   omega
abbrev tf_C1_27 := zi tI_23 (zi zI_23 (zi eI_23 (zi eB_23 (zi eZ_23 (zi underlying23 (zi tI_29 (zi zI_29 (zi eI_29 (zi eB_29 (zi eZ_29 (zi underlying29 (zi tI_50 (zi zI_50 (zi fI_50_0 (zi fI_50_1 (zi fI_50_2 (zi fI_50_3 (zi bI_50 (zi tI_52 (zi zI_52 (zi fI_52_0 (zi fI_52_1 (zi bI_52 (zi tI_56 (zi zI_56 (zi fI_56_0 (zi fI_56_1 (zi fI_56_2 (zi fI_56_3 (zi bI_56 (zi tI_58 (zi zI_58 (zi fI_58_0 (zi fI_58_1 bI_58))))))))))))))))))))))))))))))))))
theorem o_toClause (c : Cl) (st : zy7) (hb : clSz c ≤ 1048576) : zq7 prog 27 [clAv c] st (Made st (clAv c)) := by
 obtain ⟨⟨k, n, s, ts⟩, bd⟩ := c
 unfold clSz at hb
 simp only at hb
 have hc := fun st => o_toTermS' bd st (by unfold szL; omega)
 have hg := fun st => o_toTerm (.mk k n s ts) st (by omega)
 simp only [Tm.av_mk] at hg
 simp only [clAv_mk]
 refine zq7.madeJ ?_
 refine wF [1000000] 1 func27 ntmps27 rfl rfl ?_
 intro _
 simp -implicitDefEqProofs only [zy4, evF, ↓evZ, implies_true, seval, tf_C1_27]
 intro b hb1 b2 hb2
 have hne : b2 ≠ b := by rintro rfl; rw [zy7.upd_same] at hb2; cases hb2
 have hn2 : st b2 = none := by rw [zy7.upd_ne st _ hne] at hb2; exact hb2
 refine (hg _).mono ?_
 rintro q0 s2 ⟨bs, m1, m2, m3, m4⟩
 rw [← Tm.av_mk] at m3
 obtain ⟨q, rfl, m3'⟩ := own_Tm.1 m3
 have hbb : b ∉ bs := fun h => by have := m2 b h; simp [su_eq, hne, hne.symm] at this
 have hbb2 : b2 ∉ bs := fun h => by have := m2 b2 h; simp [su_eq] at this
 have e1 := m4 b hbb
 have e2 := m4 b2 hbb2
 simp only [su_eq, hne, hne.symm, if_true, if_false] at e1 e2
 obtain ⟨hqc, hqs, hqa, hqw, hqj⟩ := Own.one' m3'
 simp -implicitDefEqProofs only [zy4, su_eq, hne, hne.symm, e1, e2, hqc, hqs, hqa, hqw, hqj, evF, ↓evZ, implies_true, seval, tf_C1_27]
 refine (hc _).mono ?_
 rintro r s3 ⟨cs, n1, n2, n3, n4⟩
 have hcb2 : b2 ∉ cs := fun h => by have := n2 b2 h; simp [su_eq] at this
 have hcb : b ∉ cs := fun h => by have := n2 b h; simp [su_eq, hne, hne.symm, e1] at this
 have f1 := n4 b hcb
 have f2 := n4 b2 hcb2
 simp only [su_eq, hne, hne.symm, if_true, if_false, e1] at f1 f2
 obtain ⟨hrc, hrs, hra, hrw, hrj⟩ := Own.one' n3
 simp -implicitDefEqProofs only [zy7.upd_upd, zy4, su_eq, hne, hne.symm, f1, f2, hqc, hqs, hqa, hqw, hqj, hrc, hrs, hra, hrw, hrj, evF, ↓evZ, implies_true, seval, tf_C1_27]
 have hsome := (Own.solid _ _ _ m3').2.2
 have hdis : ∀ x ∈ bs, x ∉ cs := fun x hx hx' => by
  obtain ⟨u, e, _⟩ := hsome x hx
  have := n2 x hx'
  have h2 : x ≠ b2 := fun e => hbb2 (e ▸ hx)
  simp only [su_eq, h2, if_false] at this
  rw [e] at this; cases this
 have hcs : ∀ x ∈ cs, x ≠ b ∧ x ≠ b2 := fun x hx => ⟨fun e => hcb (e ▸ hx), fun e => hcb2 (e ▸ hx)⟩
 have hbs : ∀ x ∈ bs, x ≠ b ∧ x ≠ b2 := fun x hx => ⟨fun e => hbb (e ▸ hx), fun e => hbb2 (e ▸ hx)⟩
 refine ⟨[b, b2], bs ++ cs, List.nodup_append.2 ⟨m1, n1, fun x hx y hy e => hdis x hx (e ▸ hy)⟩, fun x hx => ?_, ?_, ?_, ?_⟩
 · rcases List.mem_append.1 hx with hx | hx
   · have := m2 x hx
     simpa [su_eq, hbs x hx] using this
   · have := n2 x hx
     simp only [su_eq, (hcs x hx).2, if_false] at this
     by_cases hxb : x ∈ bs
     · exact absurd hx (hdis x hxb)
     · rw [m4 x hxb] at this
       simpa [su_eq, hcs x hx] using this
 · simp [hb1, hn2, hbb, hbb2, hcb, hcb2]
 · rw [← clAv_mk]
   refine own_Cl.2 ⟨q, bs, r, cs, rfl, rfl, Own.keep _ _ _ (fun x hx => ?_) m3', Own.keep _ _ _ (fun x hx => ?_) n3⟩
   · simp only [su_eq, (hbs x hx).1, (hbs x hx).2, if_false]
     rw [n4 x (hdis x hx)]
     simp only [su_eq, (hbs x hx).2, if_false]
   · simp only [su_eq, (hcs x hx).1, (hcs x hx).2, if_false]
 · intro x hx hd
   simp only [List.mem_cons, List.not_mem_nil, or_false, not_or] at hd
   simp only [List.mem_append, not_or] at hx
   simp only [su_eq, hd.1, hd.2, if_false]
   rw [n4 x hx.2]
   simp only [su_eq, hd.2, if_false]
   rw [m4 x hx.1]
   simp only [su_eq, hd.1, hd.2, if_false]
theorem c_eqClauseS' (l : List Cl) (st : zy7) : zq7 prog 20 [.slice (l.map clAv), .slice (l.map clAv)] st (fun r st' => r = .bool true ∧ st' = st) := by
 refine (c_eqClauseS l l st fun x _ y st => c_eqClause x y st).mono ?_
 rintro _ _ ⟨rfl, rfl⟩
 refine ⟨?_, rfl⟩
 have : ∀ l : List Cl, eqL clSame l l = true := by
  intro l
  induction l with
  | nil => rfl
  | cons x l ih => simp [eqL, clSame_refl, ih]
 rw [this]
abbrev szC (l : List Cl) : Nat := l.length + sumL clSz l
theorem c_szClauseS' (l : List Cl) (left : Int) (st : zy7) (h0 : 0 ≤ left) (h1 : left ≤ 1048576) : zq7 prog 9 [.slice (l.map clAv), .int .i64 left] st (fun r st' => r = .int .i64 (szR left (szC l)) ∧ st' = st) :=
 c_szClauseS l left st h0 h1 fun x _ left st h0 h1 => c_szClause x left st h0 h1
theorem o_toClauseS' (l : List Cl) (st : zy7) (hb : szC l ≤ 1048576) : zq7 prog 14 [.slice (l.map clAv)] st (Made st (.slice (l.map clAv))) :=
 o_toClauseS l st (by unfold szC at hb; omega) fun x hx st => o_toClause x st (by have := sumL_mem (f := clSz) hx; unfold szC at hb; omega)

theorem ssAv_width (s : Ss) : (ssAv s).width = 6 := rfl
theorem ssAv_store (s : Ss) : (ssAv s).cells.all AV.storable = true := rfl
theorem ssAv_junk (s : Ss) : (ssAv s).isJunk = false := rfl
theorem ssAv_agg (s : Ss) : (ssAv s).isAgg = true := rfl
abbrev tf_C7_8 := zi tI_3 (zi zI_3 (zi underlying3 (zi tI_4 (zi zI_4 (zi underlying4 (zi tI_28 (zi zI_28 (zi eI_28 (zi eB_28 (zi eZ_28 (zi underlying28 (zi tI_29 (zi zI_29 (zi eI_29 (zi eB_29 (zi eZ_29 (zi underlying29 (zi tI_31 (zi zI_31 (zi fI_31_0 (zi fI_31_1 (zi fI_31_2 (zi fI_31_3 (zi fI_31_4 (zi fI_31_5 bI_31)))))))))))))))))))))))))
theorem c_eqSession (s : Ss) (st : zy7) : zq7 prog 8 [ssAv s, ssAv s] st (fun r st' => r = .bool true ∧ st' = st) := by
 obtain ⟨p, q, i0, i1, i2, i3⟩ := s
 simp only [ssAv]
 refine wF [1000000] 2 func8 ntmps8 rfl rfl ?_
 intro _
 simp -implicitDefEqProofs only [evF, ↓evZ, implies_true, seval, tf_C7_8]
 refine (c_eqClauseS' p _).to ?_
 simp -implicitDefEqProofs only [evF, ↓evZ, implies_true, seval, tf_C7_8]
 refine (c_eqTermS' q _).to ?_
 simp -implicitDefEqProofs only [beq_self_eq_true, bne_self_eq_false, evF, ↓evZ, implies_true, seval, tf_C7_8]
end Go.AW
namespace Go.AW
def isSc : AV → Bool
 | .int _ _ | .bool _ | .str _ => true
 | _ => false
theorem own_sc {st : zy7} {a o : AV} {bs : List Nat} (h : isSc a = true) : Own st a o bs ↔ o = a ∧ bs = [] := by
 cases a <;> simp [isSc] at h <;> simp [Own]
theorem ownL_sc {st : zy7} {a : AV} {es os : List AV} {bs : List Nat} (h : isSc a = true) : OwnL st (a :: es) os bs ↔ ∃ os', os = a :: os' ∧ OwnL st es os' bs := by
 simp only [OwnL]
 constructor
 · rintro ⟨o, os', b1, b2, rfl, rfl, x1, x2⟩
   obtain ⟨rfl, rfl⟩ := (own_sc h).1 x1
   exact ⟨os', rfl, x2⟩
 · rintro ⟨os', rfl, x⟩
   exact ⟨a, os', [], bs, rfl, rfl, (own_sc h).2 ⟨rfl, rfl⟩, x⟩
def weave : List AV → List AV → List AV
 | [], _ => []
 | a :: es, qs => if isSc a then a :: weave es qs else match qs with
  | q :: qs => q :: weave es qs
  | [] => []
theorem ownL_weave {st : zy7} : ∀ {es os : List AV} {bs : List Nat}, OwnL st es os bs ↔ ∃ qs, os = weave es qs ∧ OwnL st (es.filter fun a => !isSc a) qs bs
 | [], os, bs => by
  simp only [OwnL, weave, List.filter_nil]
  constructor
  · rintro ⟨rfl, rfl⟩; exact ⟨[], rfl, rfl, rfl⟩
  · rintro ⟨qs, rfl, rfl, rfl⟩; exact ⟨rfl, rfl⟩
 | a :: es, os, bs => by
  cases h : isSc a with
  | true =>
   rw [ownL_sc h]
   simp only [weave, h, List.filter_cons, Bool.not_true, Bool.false_eq_true, if_false, if_true]
   constructor
   · rintro ⟨os', rfl, x⟩
     obtain ⟨qs, rfl, y⟩ := ownL_weave.1 x
     exact ⟨qs, rfl, y⟩
   · rintro ⟨qs, rfl, y⟩
     exact ⟨_, rfl, ownL_weave.2 ⟨qs, rfl, y⟩⟩
  | false =>
   simp only [weave, h, List.filter_cons, Bool.not_false, Bool.false_eq_true, if_false, if_true, OwnL]
   constructor
   · rintro ⟨o, os', b1, b2, rfl, rfl, x1, x2⟩
     obtain ⟨qs, rfl, y⟩ := ownL_weave.1 x2
     exact ⟨o :: qs, rfl, o, qs, b1, b2, rfl, rfl, x1, y⟩
   · rintro ⟨qs, rfl, o, os', b1, b2, rfl, rfl, x1, y⟩
     exact ⟨o, _, b1, b2, rfl, rfl, x1, ownL_weave.2 ⟨os', rfl, y⟩⟩
theorem own_pieces {st : zy7} {cs : List AV} {o : AV} {bs : List Nat} : Own st (.agg cs) o bs ↔ ∃ qs, o = .agg (weave cs qs) ∧ OwnL st (cs.filter fun a => !isSc a) qs bs := by
 simp only [Own]
 constructor
 · rintro ⟨os, rfl, x⟩
   obtain ⟨qs, rfl, y⟩ := ownL_weave.1 x
   exact ⟨qs, rfl, y⟩
 · rintro ⟨qs, rfl, y⟩
   exact ⟨_, rfl, ownL_weave.2 ⟨qs, rfl, y⟩⟩
def isSl : AV → Bool
 | .slice _ => true
 | _ => false
def One (q : AV) : Prop := q.cells = [q] ∧ q.storable = true ∧ q.isAgg = false ∧ q.width = 1 ∧ q.isJunk = false
theorem OwnL.ones {st : zy7} : ∀ {es os : List AV} {bs : List Nat}, OwnL st es os bs → es.all isSl = true → ∀ q ∈ os, One q
 | [], os, bs, x, _ => by simp only [OwnL] at x; rw [x.1]; simp
 | a :: es, os, bs, x, h => by
  simp only [OwnL] at x
  obtain ⟨o, os', b1, b2, rfl, rfl, x1, x2⟩ := x
  simp only [List.all_cons, Bool.and_eq_true] at h
  intro q hq
  rcases List.mem_cons.1 hq with rfl | hq
  · cases a <;> simp [isSl] at h
    exact Own.one' x1
  · exact OwnL.ones x2 h.2 q hq
structure Coll (st : zy7) (ds : List Nat) (es os : List AV) (bs : List Nat) (s : zy7) : Prop where
 nd : bs.Nodup
 fresh : ∀ b ∈ bs, st b = none
 apart : ∀ d ∈ ds, st d = none ∧ d ∉ bs ∧ s d ≠ none
 own : OwnL s es os bs
 keep : ∀ x, x ∉ bs → x ∉ ds → s x = st x
theorem Coll.start {st : zy7} {ds : List Nat} {s : zy7} (h1 : ∀ d ∈ ds, st d = none ∧ s d ≠ none) (h2 : ∀ x, x ∉ ds → s x = st x) : Coll st ds [] [] [] s :=
 ⟨List.nodup_nil, by simp, fun d hd => ⟨(h1 d hd).1, by simp, (h1 d hd).2⟩, ⟨rfl, rfl⟩, fun x _ h => h2 x h⟩
theorem Coll.upd {st : zy7} {ds : List Nat} {es os : List AV} {bs : List Nat} {s : zy7} (c : Coll st ds es os bs s) {d : Nat} (hd : d ∈ ds) (o : AO) : Coll st ds es os bs (s.upd d o) := by
 refine ⟨c.nd, c.fresh, fun e he => ⟨(c.apart e he).1, (c.apart e he).2.1, ?_⟩, OwnL.keep _ _ _ (fun b hb => zy7.upd_ne _ _ (fun e => (c.apart d hd).2.1 (e ▸ hb))) c.own, fun x h1 h2 => ?_⟩
 · by_cases h : e = d
   · subst h; rw [zy7.upd_same]; simp
   · rw [zy7.upd_ne _ _ h]; exact (c.apart e he).2.2
 · have hx : x ≠ d := by rintro rfl; exact h2 hd
   rw [zy7.upd_ne _ _ hx]; exact c.keep x h1 h2
theorem Coll.made {st : zy7} {ds : List Nat} {es os : List AV} {bs : List Nat} {s s' : zy7} {a r : AV} (c : Coll st ds es os bs s) (m : Made s a r s') : (∀ d ∈ ds, s' d = s d) ∧ ∃ bs', Coll st ds (es ++ [a]) (os ++ [r]) bs' s' := by
 obtain ⟨b2, m1, m2, m3, m4⟩ := m
 have hb : ∀ b ∈ bs, b ∉ b2 := fun b hb hb' => by
  obtain ⟨cs, e, _⟩ := (OwnL.solid _ _ _ c.own).2 b hb
  rw [m2 b hb'] at e; cases e
 have hd : ∀ d ∈ ds, d ∉ b2 := fun d hd hd' => (c.apart d hd).2.2 (m2 d hd')
 have hf : ∀ b ∈ b2, st b = none := fun b h2 => by
  have h1 : b ∉ bs := fun h => hb b h h2
  have h3 : b ∉ ds := fun h => hd b h h2
  rw [← c.keep b h1 h3]; exact m2 b h2
 refine ⟨fun d h => m4 d (hd d h), bs ++ b2, List.nodup_append.2 ⟨c.nd, m1, fun x hx y hy e => hb x hx (e ▸ hy)⟩, fun b h => ?_, fun d h => ⟨(c.apart d h).1, ?_, ?_⟩, ?_, fun x h1 h2 => ?_⟩
 · rcases List.mem_append.1 h with h | h
   · exact c.fresh b h
   · exact hf b h
 · simp only [List.mem_append, not_or]; exact ⟨(c.apart d h).2.1, hd d h⟩
 · rw [m4 d (hd d h)]; exact (c.apart d h).2.2
 · exact OwnL.snoc c.own (fun b h => m4 b (hb b h)) m3
 · simp only [List.mem_append, not_or] at h1
   rw [m4 x h1.2, c.keep x h1.1 h2]
theorem Coll.done {st : zy7} {ds : List Nat} {es os : List AV} {bs : List Nat} {s : zy7} (c : Coll st ds es os bs s) {a r : AV} (h : OwnL s es os bs → Own s a r bs) : ∃ ds, MadeJ st ds a r s :=
 ⟨ds, bs, c.nd, c.fresh, fun d hd => ⟨(c.apart d hd).1, (c.apart d hd).2.1⟩, h c.own, fun b h1 h2 => c.keep b h1 h2⟩
theorem Coll.two {st : zy7} {b b2 : Nat} {o o2 : AO} (hb : st b = none) (hb2 : (st.upd b o) b2 = none) : b2 ≠ b ∧ Coll st [b, b2] [] [] [] ((st.upd b o).upd b2 o2) := by
 have hne : b2 ≠ b := by rintro rfl; rw [zy7.upd_same] at hb2; cases hb2
 have hn2 : st b2 = none := by rw [zy7.upd_ne st _ hne] at hb2; exact hb2
 refine ⟨hne, Coll.start (fun d hd => ?_) (fun x hx => ?_)⟩
 · simp only [List.mem_cons, List.not_mem_nil, or_false] at hd
   rcases hd with rfl | rfl
   · exact ⟨hb, by rw [zy7.upd_ne _ _ (Ne.symm hne), zy7.upd_same]; simp⟩
   · exact ⟨hn2, by rw [zy7.upd_same]; simp⟩
 · simp only [List.mem_cons, List.not_mem_nil, or_false, not_or] at hx
   rw [zy7.upd_ne _ _ hx.2, zy7.upd_ne _ _ hx.1]
abbrev Fr := Int × ByteArray
structure Clt where
 rest : List Bt
 brk : Bool
 wait : List Fr
 prog : List Cl
 act : Bool
 ses : Ss
 told : Bool
 out : List Fr
structure Sv where
 cs : List Clt
 quota : Int
def ssSz (s : Ss) : Nat := szC s.p + szL s.q
end Go.AW
namespace Go.AW
open Go.Proofs.Tryz

abbrev tf_F2_4 := zi tI_3 (zi zI_3 (zi underlying3 (zi tI_22 (zi zI_22 (zi eI_22 (zi eB_22 (zi eZ_22 (zi underlying22 (zi tI_23 (zi zI_23 (zi eI_23 (zi eB_23 (zi eZ_23 (zi underlying23 (zi tI_25 (zi zI_25 (zi fI_25_0 (zi fI_25_1 (zi fI_25_2 (zi fI_25_3 (zi fI_25_4 (zi fI_25_5 bI_25))))))))))))))))))))))
theorem c_szSession (s : Ss) (left : Int) (st : zy7) (h0 : 0 ≤ left) (h1 : left ≤ 1048576) : zq7 prog 4 [ssAv s, .int .i64 left] st (fun r' st' => r' = .int .i64 (szR left (ssSz s)) ∧ st' = st) := by
 obtain ⟨p, q, i0, i1, i2, i3⟩ := s
 simp only [ssAv, ssSz]
 generalize hp : szC p = np
 generalize hq : szL q = nq
 refine wF [1000000] 2 func4 ntmps4 rfl rfl ?_
 intro _
 simp -implicitDefEqProofs only [evF, ↓evZ, implies_true, seval, tf_F2_4]
 have hcp := fun st => c_szClauseS' p left st h0 h1
 rw [hp] at hcp
 refine (hcp _).to ?_
 simp -implicitDefEqProofs only [evF, ↓evZ, implies_true, seval, tf_F2_4]
 refine zq4 (fun h2 => ?_) (fun h2 => ?_)
 · simp -implicitDefEqProofs only [evF, ↓evZ, implies_true, seval, tf_F2_4]
   simp only [decide_eq_true_eq, szR_neg] at h2
   simp only [szR]
   rw [if_pos (by skip; omega)]
 simp only [decide_eq_false_iff_not, szR_neg] at h2
 rw [szR_pos h2]
 simp -implicitDefEqProofs only [evF, ↓evZ, implies_true, seval, tf_F2_4]
 have hcq := fun st => c_szTermS' q (left - (np : Int)) st (by omega) (by omega)
 rw [hq] at hcq
 refine (hcq _).to ?_
 simp -implicitDefEqProofs only [evF, ↓evZ, implies_true, seval, tf_F2_4]
 refine zq4 (fun h3 => ?_) (fun h3 => ?_)
 · simp -implicitDefEqProofs only [evF, ↓evZ, implies_true, seval, tf_F2_4]
   simp only [decide_eq_true_eq, szR_neg] at h3
   simp only [szR]
   rw [if_pos (by skip; omega)]
 simp only [decide_eq_false_iff_not, szR_neg] at h3
 rw [szR_pos h3]
 simp -implicitDefEqProofs only [evF, ↓evZ, implies_true, seval, tf_F2_4]
 rw [szR_pos (by omega)]
 congr 1
 omega
abbrev tf_F3_6 := zi tI_3 (zi zI_3 (zi underlying3 (zi tI_22 (zi zI_22 (zi eI_22 (zi eB_22 (zi eZ_22 (zi underlying22 (zi tI_23 (zi zI_23 (zi eI_23 (zi eB_23 (zi eZ_23 (zi underlying23 (zi tI_25 (zi zI_25 (zi fI_25_0 (zi fI_25_1 (zi fI_25_2 (zi fI_25_3 (zi fI_25_4 (zi fI_25_5 (zi bI_25 (zi tI_28 (zi zI_28 (zi eI_28 (zi eB_28 (zi eZ_28 (zi underlying28 (zi tI_29 (zi zI_29 (zi eI_29 (zi eB_29 (zi eZ_29 (zi underlying29 (zi tI_31 (zi zI_31 (zi fI_31_0 (zi fI_31_1 (zi fI_31_2 (zi fI_31_3 (zi fI_31_4 (zi fI_31_5 bI_31)))))))))))))))))))))))))))))))))))))))))))
theorem o_toSession (s : Ss) (st : zy7) (hb : ssSz s ≤ 1048576) : zq7 prog 6 [ssAv s] st (Made st (ssAv s)) := by
 obtain ⟨p, q, i0, i1, i2, i3⟩ := s
 unfold ssSz at hb
 simp only at hb
 simp only [ssAv]
 refine zq7.madeJ ?_
 refine wF [1000000] 1 func6 ntmps6 rfl rfl ?_
 intro _
 simp -implicitDefEqProofs only [zy4, evF, ↓evZ, implies_true, seval, tf_F3_6]
 intro b hb1 b2 hb2
 obtain ⟨hne, C0⟩ := Coll.two hb1 hb2
 refine (o_toClauseS' p _ (by omega)).mono ?_
 rintro q0 s1 m1
 obtain ⟨k1, bs1, C1⟩ := C0.made m1
 have e1 := k1 b (by simp)
 have e2 := k1 b2 (by simp)
 simp only [su_eq, hne, hne.symm, if_true, if_false] at e1 e2
 obtain ⟨hqc, hqs, hqa, hqw, hqj⟩ := C1.own.ones rfl q0 (by simp)
 simp -implicitDefEqProofs only [zy7.upd_upd, zy4, su_eq, hne, hne.symm, e1, e2, hqc, hqs, hqa, hqw, hqj, evF, ↓evZ, implies_true, seval, tf_F3_6]
 refine (o_toTermS' q _ (by omega)).mono ?_
 rintro q1 s2 m2
 obtain ⟨k2, bs2, C2⟩ := (C1.upd (d := b2) (by simp) _).made m2
 have f1 := k2 b (by simp)
 have f2 := k2 b2 (by simp)
 simp only [su_eq, hne, hne.symm, if_true, if_false, e1, e2] at f1 f2
 obtain ⟨hrc, hrs, hra, hrw, hrj⟩ := C2.own.ones rfl q1 (by simp)
 simp -implicitDefEqProofs only [zy7.upd_upd, zy4, su_eq, hne, hne.symm, f1, f2, hqc, hqs, hqa, hqw, hqj, hrc, hrs, hra, hrw, hrj, evF, ↓evZ, implies_true, seval, tf_F3_6]
 refine ((C2.upd (d := b2) (by simp) _).upd (d := b) (by simp) _).done fun h => ?_
 exact own_pieces.2 ⟨_, rfl, h⟩
noncomputable def foundS (s : Ss) : List (List Tm) × Int :=
 ((solveS s.p (fun _ l => l) s.q 20 s.used).1, if (solveS s.p (fun _ l => l) s.q 20 s.used).2 = 2 ∧ s.used < s.quota then -1 else (solveS s.p (fun _ l => l) s.q 20 s.used).2)
def ssRng (s : Ss) : Bool := progOk s.p && (queryOk s.q && (decide (0 ≤ s.quota) && (decide (s.quota ≤ 300) && (decide (0 ≤ s.used) && decide (s.used ≤ s.quota)))))
def ssNew (s : Ss) : Bool := decide (s.used = 0) && (decide (s.sent = 0) && decide (s.fin = -1))
noncomputable def ssOk (s : Ss) : Bool := ssRng s && (ssNew s || (decide (s.sent = ((foundS s).1.length : Int)) && decide (s.fin = (foundS s).2)))
theorem ssRng_solve {s : Ss} (h : ssRng s = true) : solveOk s.p s.q 20 s.used = true := by
 simp only [ssRng, Bool.and_eq_true, decide_eq_true_eq] at h
 obtain ⟨h1, h2, h3, h4, h5, h6⟩ := h
 simp only [solveOk, h1, h2, Bool.true_and]
 rw [decide_eq_true h5, decide_eq_true (show s.used ≤ 300 by omega)]
 decide
abbrev tf_T11_13 := zi tI_3 (zi zI_3 (zi underlying3 (zi tI_28 (zi zI_28 (zi eI_28 (zi eB_28 (zi eZ_28 (zi underlying28 (zi tI_29 (zi zI_29 (zi eI_29 (zi eB_29 (zi eZ_29 (zi underlying29 (zi tI_31 (zi zI_31 (zi fI_31_0 (zi fI_31_1 (zi fI_31_2 (zi fI_31_3 (zi fI_31_4 (zi fI_31_5 (zi bI_31 (zi tI_39 (zi zI_39 (zi eI_39 (zi eB_39 (zi eZ_39 underlying39))))))))))))))))))))))))))))
theorem c_l10After (s : Ss) (h : ssRng s = true) (st : zy7) : zq7 prog 13 [ssAv s, .int .i64 s.used] st (fun r st' => r = .tup [.slice ((foundS s).1.map ansAv), .int .i64 (foundS s).2] ∧ st' = st) := by
 have hok := ssRng_solve h
 simp only [ssRng, Bool.and_eq_true, decide_eq_true_eq] at h
 obtain ⟨kp, kq, k1, k2, k3, k4⟩ := h
 obtain ⟨p1, p2⟩ := progOk_X kp
 obtain ⟨q1, q2⟩ := queryOk_X kq
 have hr := c_l6Run p2 p1 q2 q1 (most := 20) (fuel := s.used.toNat) (by omega) (by omega)
 rw [show ((20 : Nat) : Int) = 20 from rfl, show ((s.used.toNat : Nat) : Int) = s.used by omega] at hr
 have hs : solveS s.p (fun _ l => l) s.q 20 s.used = solveR s.p (fun _ l => l) s.q 20 s.used.toNat := by
  unfold solveS
  rw [if_pos hok]
  rfl
 rw [← hs] at hr
 unfold foundS
 generalize solveS s.p (fun _ l => l) s.q 20 s.used = T at *
 obtain ⟨L, e⟩ := T
 simp only at hr ⊢
 obtain ⟨p, q, i0, i1, i2, i3⟩ := s
 simp only [ssAv] at *
 refine wF [1000000] 2 func13 ntmps13 rfl rfl ?_
 intro _
 simp -implicitDefEqProofs only [List.length_map, evF, ↓evZ, implies_true, seval, tf_T11_13]
 refine (hr _).to ?_
 repeat' (first
  | (simp -implicitDefEqProofs only [*, List.length_map, evF, ↓evZ, implies_true, seval, tf_T11_13])
  | (refine zx4 (fun h => ?_) (fun h => ?_))
  | (refine zq4 (fun h => ?_) (fun h => ?_)))
 all_goals simp_all
abbrev tf_T11_5 := zi tI_3 (zi zI_3 (zi underlying3 (zi tI_4 (zi zI_4 (zi underlying4 (zi tI_28 (zi zI_28 (zi eI_28 (zi eB_28 (zi eZ_28 (zi underlying28 (zi tI_29 (zi zI_29 (zi eI_29 (zi eB_29 (zi eZ_29 (zi underlying29 (zi tI_31 (zi zI_31 (zi fI_31_0 (zi fI_31_1 (zi fI_31_2 (zi fI_31_3 (zi fI_31_4 (zi fI_31_5 (zi bI_31 (zi tI_39 (zi zI_39 (zi eI_39 (zi eB_39 (zi eZ_39 underlying39)))))))))))))))))))))))))))))))
theorem c_spec_SessionValid (s : Ss) (st : zy7) : zq7 prog 5 [ssAv s] st (fun r st' => r = .bool (ssOk s) ∧ st' = st) := by
 have ha := c_l10After s
 unfold ssOk
 generalize foundS s = T at *
 obtain ⟨L, e⟩ := T
 obtain ⟨p, q, i0, i1, i2, i3⟩ := s
 simp only [ssAv, ssRng, ssNew] at *
 refine zq7.done ?_
 refine wF [1000000] 1 func5 ntmps5 rfl rfl ?_
 intro _
 simp -implicitDefEqProofs only [List.length_map, evF, ↓evZ, implies_true, seval, tf_T11_5]
 repeat' (first
  | (simp -implicitDefEqProofs only [*, List.length_map, evF, ↓evZ, implies_true, seval, tf_T11_5])
  | (refine zx4 (fun h => ?_) (fun h => ?_))
  | (refine (c_spec_ProgramValid p _).to ?_) | (refine (c_spec_QueryValid q _).to ?_) | (refine (ha (by simp_all) _).to ?_)
  | (refine zq4 (fun h => ?_) (fun h => ?_)))
 all_goals (refine ⟨?_, Drops.refl _⟩; simp only [AV.soft]; first | (simp_all; done) | (simp_all; intros; omega))
abbrev tf_T11_19 := zi tI_3 (zi zI_3 (zi underlying3 (zi tI_28 (zi zI_28 (zi eI_28 (zi eB_28 (zi eZ_28 (zi underlying28 (zi tI_29 (zi zI_29 (zi eI_29 (zi eB_29 (zi eZ_29 (zi underlying29 (zi tI_31 (zi zI_31 (zi fI_31_0 (zi fI_31_1 (zi fI_31_2 (zi fI_31_3 (zi fI_31_4 (zi fI_31_5 (zi bI_31 (zi tI_39 (zi zI_39 (zi eI_39 (zi eB_39 (zi eZ_39 underlying39))))))))))))))))))))))))))))
theorem c_found (s : Ss) (k : Int) (st : zy7) : zq7 prog 19 [ssAv s, .int .i64 s.used] st (MadeT st [.slice ((foundS s).1.map ansAv), .int .i64 (foundS s).2]) := by
 refine zq7.mono (Q := fun r st' => ∃ o, r = .tup [o, .int .i64 (foundS s).2] ∧ Made st (.slice ((foundS s).1.map ansAv)) o st') ?_ (by rintro _ _ ⟨o, rfl, h⟩; exact MadeT.ofMadeI h)
 have hr := c_impl_Solve s.p s.q 20 s.used
 unfold foundS
 generalize solveS s.p (fun _ l => l) s.q 20 s.used = T at *
 obtain ⟨L, e⟩ := T
 simp only at hr ⊢
 obtain ⟨p, q, i0, i1, i2, i3⟩ := s
 simp only [ssAv] at *
 refine wF [1000000] 2 func19 ntmps19 rfl rfl ?_
 intro _
 simp -implicitDefEqProofs only [List.length_map, evF, ↓evZ, implies_true, seval, tf_T11_19]
 refine (hr _).mono ?_
 intro r s1 h
 obtain ⟨o, rfl, hM⟩ := h.toMadeI
 obtain ⟨hqc, hqs, hqa, hqw, hqj⟩ := Own.one' hM.choose_spec.2.2.1
 repeat' (first
  | (simp -implicitDefEqProofs only [*, List.length_map, hqc, hqs, hqa, hqw, hqj, evF, ↓evZ, implies_true, seval, tf_T11_19])
  | (refine zx4 (fun h => ?_) (fun h => ?_))
  | (refine zq4 (fun h => ?_) (fun h => ?_)))
 all_goals exact ⟨o, by simp_all, hM⟩
abbrev tf_T11_7 := zi tI_3 (zi zI_3 (zi underlying3 (zi tI_4 (zi zI_4 (zi underlying4 (zi tI_28 (zi zI_28 (zi eI_28 (zi eB_28 (zi eZ_28 (zi underlying28 (zi tI_29 (zi zI_29 (zi eI_29 (zi eB_29 (zi eZ_29 (zi underlying29 (zi tI_31 (zi zI_31 (zi fI_31_0 (zi fI_31_1 (zi fI_31_2 (zi fI_31_3 (zi fI_31_4 (zi fI_31_5 (zi bI_31 (zi tI_39 (zi zI_39 (zi eI_39 (zi eB_39 (zi eZ_39 underlying39)))))))))))))))))))))))))))))))
theorem c_impl_SessionValid (s : Ss) (st : zy7) : zq7 prog 7 [ssAv s] st (fun r st' => r = .bool (ssOk s) ∧ st' = st) := by
 have ha := fun st => (c_found s 0 st).madeT
 unfold ssOk
 generalize foundS s = T at *
 obtain ⟨L, e⟩ := T
 obtain ⟨p, q, i0, i1, i2, i3⟩ := s
 simp only [ssAv, ssRng, ssNew] at *
 refine zq7.done ?_
 refine wF [1000000] 1 func7 ntmps7 rfl rfl ?_
 intro _
 simp -implicitDefEqProofs only [List.length_map, evF, ↓evZ, implies_true, seval, tf_T11_7]
 repeat' (first
  | (simp -implicitDefEqProofs only [*, List.length_map, evF, ↓evZ, implies_true, seval, tf_T11_7])
  | (refine zx4 (fun h => ?_) (fun h => ?_))
  | (refine (c_impl_ProgramValid p _).to ?_) | (refine (c_impl_QueryValid q _).to ?_) | (refine (c_within _ _ _ _).to ?_) | (refine (ha _).to ?_)
  | (refine zq4 (fun h => ?_) (fun h => ?_)))
 all_goals (refine ⟨?_, Drops.refl _⟩; simp only [AV.soft]; first | (simp_all; done) | (simp_all; intros; omega))
abbrev tf_T11_3 := zi tI_3 (zi zI_3 (zi underlying3 (zi tI_4 (zi zI_4 (zi underlying4 (zi tI_25 (zi zI_25 (zi fI_25_0 (zi fI_25_1 (zi fI_25_2 (zi fI_25_3 (zi fI_25_4 (zi fI_25_5 (zi bI_25 (zi tI_31 (zi zI_31 (zi fI_31_0 (zi fI_31_1 (zi fI_31_2 (zi fI_31_3 (zi fI_31_4 (zi fI_31_5 bI_31))))))))))))))))))))))
theorem c_FnExactSessionValid (s : Ss) (st : zy7) : zq7 prog 3 [ssAv s] st (fun r _ => r = .bool true) := by
 have hsz := c_szSession s
 have hto := fun st hb => (o_toSession s st hb).made
 have hom := o_toSession s
 have hsp := c_spec_SessionValid s
 have him := c_impl_SessionValid s
 have heq := c_eqSession s
 refine wF [1000000] 1 func3 ntmps3 rfl rfl ?_
 intro _
 simp -implicitDefEqProofs only [ssAv_width, ssAv_store, ssAv_junk, ssAv_agg, evF, ↓evZ, implies_true, seval, tf_T11_3]
 refine (hsz _ st (by omega) (by omega)).to ?_
 simp -implicitDefEqProofs only [ssAv_width, ssAv_store, ssAv_junk, ssAv_agg, evF, ↓evZ, implies_true, seval, tf_T11_3]
 refine zq4 (fun h1 => ?_) (fun h1 => ?_)
 · simp -implicitDefEqProofs only [ssAv_width, ssAv_store, ssAv_junk, ssAv_agg, evF, ↓evZ, implies_true, seval, tf_T11_3]
 simp only [decide_eq_false_iff_not, szR_neg] at h1
 have hb : ssSz s ≤ 1048576 := by omega
 simp -implicitDefEqProofs only [ssAv_width, ssAv_store, ssAv_junk, ssAv_agg, evF, ↓evZ, implies_true, seval, tf_T11_3]
 refine (hto _ hb).to ?_
 simp -implicitDefEqProofs only [ssAv_width, ssAv_store, ssAv_junk, ssAv_agg, evF, ↓evZ, implies_true, seval, tf_T11_3]
 refine (hsp _).to ?_
 simp -implicitDefEqProofs only [ssAv_width, ssAv_store, ssAv_junk, ssAv_agg, evF, ↓evZ, implies_true, seval, tf_T11_3]
 refine (hom _ hb).mono ?_
 rintro o0 s1 ⟨b0, n0, f0, O0, k0⟩
 obtain ⟨hw0, _, hs0, hj0, ha0⟩ := Own.fits O0 (ssAv_width s) (ssAv_store s)
 rw [ssAv_agg] at ha0
 simp -implicitDefEqProofs only [ssAv_width, ssAv_store, ssAv_junk, ssAv_agg, hw0, hs0, hj0, ha0, evF, ↓evZ, implies_true, seval, tf_T11_3]
 refine (zq7.see (fun s' => him s') (Seen.own O0 .nil) rfl).to ?_
 simp -implicitDefEqProofs only [beq_self_eq_true, bne_self_eq_false, ssAv_width, ssAv_store, ssAv_junk, ssAv_agg, hw0, hs0, hj0, ha0, evF, ↓evZ, implies_true, seval, tf_T11_3]
 refine arun_drawA mixed (by decide +kernel) (by decide +kernel) ?_
 simp -implicitDefEqProofs only [ssAv_width, ssAv_store, ssAv_junk, ssAv_agg, hw0, hs0, hj0, ha0, evF, ↓evZ, implies_true, seval, tf_T11_3]
 refine zw4 (hto _ hb) ?_
 simp -implicitDefEqProofs only [ssAv_width, ssAv_store, ssAv_junk, ssAv_agg, hw0, hs0, hj0, ha0, evF, ↓evZ, implies_true, seval, tf_T11_3]
 refine zw4 (zq7.see (fun s' => heq s') (Seen.own O0 (Seen.same .nil)) rfl) ?_
 simp -implicitDefEqProofs only [ssAv_width, ssAv_store, ssAv_junk, ssAv_agg, hw0, hs0, hj0, ha0, evF, ↓evZ, implies_true, seval, tf_T11_3]
end Go.AW
namespace Go.AW
open Go.ChangeShapes Go.WideShapes Go.ChangeAt Go.RowKit
abbrev none0 : zy7 := fun _ => none
section
variable {H : Type} {enc : TypeId × Value → H} {P : Program} {w : World}
def Reads (enc : TypeId × Value → H) (P : Program) (w : World) (t n : Nat) {α : Type} (av : α → AV) : Prop :=
 ∀ cs x, DataW.trod enc P w 0 (fun _ => true) true n t cs = some x → ∃ a : α, VC w.heap none0 (av a) cs
theorem VEs_each {h : Heap} {st : zy7} {b k : Nat} : ∀ {es : List AV} {off : Nat}, (∀ e ∈ es, e.width = k) → (∀ (i : Nat) e, es[i]? = some e → VE h st b (off + i * k) e) → VEs h st b off es
 | [], _, _, _ => by simp [VEs]
 | e :: es, off, hw, h => by
  simp only [VEs]
  refine ⟨by simpa [VE] using h 0 e rfl, VEs_each (fun x hx => hw x (by simp [hx])) fun i x hx => ?_⟩
  have := h (i + 1) x (by simpa using hx)
  rw [hw e (by simp), Nat.add_assoc, ← Nat.succ_mul' k i] 
  exact this
where Nat.succ_mul' (k i : Nat) : (i + 1) * k = k + i * k := by rw [Nat.succ_mul]; omega
theorem cell_spot {a : Addr} {v : Value} (h : w.cell? a = some v) : a.spot = none ∧ a.block < w.heap.size ∧ cellAt w.heap a.block a.off = some v := by
 unfold World.cell? at h
 split at h
 · rename_i c t fr hb
   split at h
   · cases h
   · rename_i hs
     refine ⟨by simpa using hs, (Array.getElem?_eq_some_iff.1 hb).1, by simp [cellAt, hb, h]⟩
 · cases h
theorem cells_at {a : Addr} {n : Nat} {cs : List Value} (hs : a.spot = none) (h : w.cells? 0 a n = some cs) : cellsAt w.heap a.block a.off cs ∧ cs.length = n := by
 obtain ⟨_, hl, hc⟩ := World.cells?_some h
 refine ⟨?_, hl⟩
 have : ∀ (l : List Value) (k : Nat), (∀ i, i < l.length → w.cell? (a.add (k + i)) = l[i]?) → cellsAt w.heap a.block (a.off + k) l := by
  intro l
  induction l with
  | nil => intro _ _; trivial
  | cons v l ih =>
   intro k hk
   refine ⟨?_, ?_⟩
   · have := (cell_spot (hk 0 (by simp))).2.2
     obtain ⟨b, off, sp⟩ := a
     simp only at hs
     subst hs
     simpa [Addr.add_flat] using this
   · have := ih (k + 1) (fun i hi => by have := hk (i + 1) (by simp; omega); rw [show k + 1 + i = k + (i + 1) by omega]; simpa using this)
     simpa [Nat.add_assoc] using this
 simpa using this cs 0 (fun i hi => by simpa using hc i (by omega))
theorem reads_slice {t e n k : Nat} {α : Type} {av : α → AV} (ht : P.underlying t = some (.slice e)) (hk : P.cellsOf e = k) (hpos : 0 < k) (hw : ∀ a, (av a).width = k) (hr : ∀ m, m < n → Reads enc P w e m av) :
 Reads enc P w t n (fun l : List α => .slice (l.map av)) := by
 intro cs x h
 rcases DataW.trod_slice ht h with ⟨rfl, _⟩ | ⟨a, len, cap, elems, rest, m, hm, rfl, rfl, _, hl, hcap, hlen, hel, hsp, _⟩
 · exact ⟨[], by simp only [List.map_nil]; unfold VC; exact .inl ⟨⟨_, rfl⟩, rfl⟩⟩
 obtain ⟨hrl, hrest⟩ := hsp rfl
 rw [hk] at hel hrest
 have get : ∀ i, i < cap → ∃ ds y, w.cells? 0 (a.add (i * k)) k = some ds ∧ DataW.trod enc P w 0 (fun _ => true) true m e ds = some y := by
  intro i hi
  have hb : ∃ y, (w.cells? 0 (a.add (i * k)) k).bind (DataW.trod enc P w 0 (fun _ => true) true m e) = some y := by
   by_cases hi' : i < len
   · exact ⟨elems[i]'(by omega), by rw [hel i hi']; simp [show i < elems.length by omega]⟩
   · have := hrest (i - len) (by omega)
     rw [show len + (i - len) = i by omega] at this
     exact ⟨rest[i - len]'(by omega), by rw [this]; simp [show i - len < rest.length by omega]⟩
  obtain ⟨y, hy⟩ := hb
  obtain ⟨ds, h1, h2⟩ := Option.bind_eq_some_iff.1 hy
  exact ⟨ds, y, h1, h2⟩
 by_cases hc0 : cap = 0
 · subst hc0
   obtain rfl : len = 0 := by omega
   exact ⟨[], by simp only [List.map_nil]; unfold VC; exact .inl ⟨⟨_, rfl⟩, rfl⟩⟩
 obtain ⟨ds0, _, hd0, _⟩ := get 0 (by omega)
 have hspot : a.spot = none ∧ a.block < w.heap.size := by
  obtain ⟨_, hl0, hc⟩ := World.cells?_some hd0
  have := hc 0 hpos
  have h0 : ds0[0]? = some (ds0[0]'(by omega)) := by simp [hl0, hpos]
  rw [h0] at this
  have := cell_spot this
  obtain ⟨b, off, sp⟩ := a
  simp only [Nat.zero_mul] at this
  cases sp with
  | none => exact ⟨rfl, by simpa [Addr.add_flat] using this.2.1⟩
  | some s => exact absurd this.1 (by simp [Addr.add])
 obtain ⟨b, off, sp⟩ := a
 simp only at hspot
 obtain ⟨rfl, hbl⟩ := hspot
 have val : ∀ i, i < len → ∃ v : α, VE w.heap none0 b (off + i * k) (av v) := by
  intro i hi
  obtain ⟨ds, y, h1, h2⟩ := get i (by omega)
  obtain ⟨v, hv⟩ := hr m (by omega) ds y h2
  obtain ⟨c1, c2⟩ := cells_at (a := (⟨b, off, none⟩ : Addr).add (i * k)) (by simp [Addr.add_flat]) h1
  exact ⟨v, ds, by simpa [Addr.add_flat] using c1, by rw [hw]; exact c2, hv⟩
 have build : ∀ j, j ≤ len → ∃ l : List α, l.length = j ∧ ∀ (i : Nat) v, l[i]? = some v → VE w.heap none0 b (off + i * k) (av v) := by
  intro j
  induction j with
  | zero => intro _; exact ⟨[], rfl, by simp⟩
  | succ j ih =>
   intro hj
   obtain ⟨l, h1, h2⟩ := ih (by omega)
   obtain ⟨v, hv⟩ := val j (by omega)
   refine ⟨l ++ [v], by simp [h1], fun i u hi => ?_⟩
   rw [List.getElem?_append] at hi
   split at hi
   · exact h2 i u hi
   · rename_i hge
     have : i = j := by
      have := (List.getElem?_eq_some_iff.1 hi).1
      simp at this
      omega
     subst this
     simp [h1] at hi
     subst hi
     exact hv
 obtain ⟨l, h1, h2⟩ := build len (Nat.le_refl _)
 refine ⟨l, ?_⟩
 unfold VC
 refine .inr ⟨b, off, cap, by simp [h1], by simp [h1]; exact hl, hcap, rfl, hbl, even_map hw l, VEs_each (k := k) (by intro e he; simp only [List.mem_map] at he; obtain ⟨v, _, rfl⟩ := he; exact hw v) fun i e he => ?_⟩
 rw [List.getElem?_map] at he
 obtain ⟨v, hv, rfl⟩ := Option.map_eq_some_iff.1 he
 exact h2 i v hv
theorem rd_field {fs : Array Field} {n : Nat} {cs : List Value} {xs : List (DataW H × List MemPlace)} (hx : xs.length = fs.size)
 (hf : ∀ (i : Nat) (f : Field), fs[i]? = some f → DataW.trod enc P w 0 (fun _ => true) true n f.type ((cs.drop f.offset).take (P.cellsOf f.type)) = xs[i]?) (i : Nat) {f : Field} (h : fs[i]? = some f) :
 ∃ y, DataW.trod enc P w 0 (fun _ => true) true n f.type ((cs.drop f.offset).take (P.cellsOf f.type)) = some y := by
 have hi : i < xs.length := by rw [hx]; exact (Array.getElem?_eq_some_iff.1 h).1
 exact ⟨xs[i], by rw [hf i f h]; simp [hi]⟩
theorem reads_val {t : TypeId} {α : Type} {av : α → AV} {v : Value} {d : DataW H} {ps : List MemPlace} (hr : ∀ n, Reads enc P w t n av) (hag : ∀ a, (av a).isAgg = vIsAgg v) (h : DataW.Trod enc P w 0 (fun _ => true) true t v d ps) :
 ∃ a : α, VRel w.heap none0 (av a) v := by
 obtain ⟨n, hn⟩ := h
 obtain ⟨a, ha⟩ := hr n _ _ hn
 refine ⟨a, ?_⟩
 have := hag a
 cases hq : av a <;> rw [hq] at ha this <;> first | trivial | exact ⟨this, ha⟩
theorem trodAll_stays (hl : laidOutB P = true) {W W' : World} {sp : Nat → Bool} : ∀ {ts : List TypeId} {vs : List Value} {ds : List (DataW H)} {ps : List MemPlace}, (ts.all fun t => P.readableRec t && decide (t < P.types.size)) = true →
 DataW.TrodAll enc P W 0 (fun _ => true) true ts vs ds ps → (∀ x ∈ ps, W.sameAt W' x) → (∀ x ∈ ps, sp x.block = true) → DataW.TrodAll enc P W' 0 sp true ts vs ds ps
 | [], vs, ds, ps, _, h, _, _ => by
  cases vs <;> cases ds <;> simp [DataW.TrodAll] at h ⊢
  exact h
 | t :: ts, vs, ds, ps, ht, h, h1, h2 => by
  obtain ⟨v, vs', d, ds', p, q, rfl, rfl, rfl, hd, hrest⟩ := trodAll_cons h
  simp only [List.all_cons, Bool.and_eq_true, decide_eq_true_eq] at ht
  refine ⟨p, q, Go.WideElems.Trod_stays hl ht.1.1 ht.1.2 hd (fun x hx => h1 x (by simp [hx])) (fun x hx => h2 x (by simp [hx])), trodAll_stays hl ht.2 hrest (fun x hx => h1 x (by simp [hx])) (fun x hx => h2 x (by simp [hx])), rfl⟩
theorem below_of {W W' : World} {st' : zy7} (T : StepH W.heap none0 W'.heap st') (s : Same W W') : Below W.heap.size W W' :=
 ⟨s.1, s.2.1, s.2.2, T.size, fun k hk => (T.keep k hk rfl).1⟩
theorem law_row {f : Func} {g : FuncId} {s : ChangeSpec} {W : World} {args : Array Value} {ds : List (DataW H)} {before : List MemPlace} {avs : List AV} {tb : TypeId}
 (hl : laidOutB P = true) (hts : (f.params.toList.all fun t => P.readableRec t && decide (t < P.types.size)) = true) (hrt : f.resultTypes = #[tb]) (htb : P.underlying tb = some .bool) (hsv : s.vars = [])
 (hW : DataW.Whole enc P f.params.toList [] false W args.toList ds [] before) (hfn : s.fn H ds = { results := [.lit (.bool true)], args := ds }) (hrel : VRelL W.heap none0 avs args.toList)
 (hc : zq7 P g avs none0 (fun r _ => r = .bool true)) :
 Calls P g args W fun e W' => ∃ v, e = .returned v ∧ s.post enc P f false true false false W args v W' := by
 have hS : SRel W.heap none0 := fun b o h => by cases h
 have := hc.2 W args.toList hS hrel
 simp only [Array.toArray_toList] at this
 refine this.mono ?_
 rintro e W' ⟨v, r, st', rfl, hv, _, T, sm, rfl⟩
 refine ⟨v, rfl, ?_⟩
 have hB := below_of T sm
 rw [hv.bool_of]
 have hW' : DataW.Whole enc P f.params.toList s.vars false W args.toList ds [] before := by rw [hsv]; exact hW
 obtain ⟨p, q, hA, hV, rfl, hz, _⟩ := hW
 obtain ⟨_, rfl⟩ := trodVars_none hV
 have hlt : ∀ x ∈ p, x.block < W.heap.size := fun x hx => hW'.lt x (by simp [hx])
 have hres : ∀ (b : Nat) (sp : Nat → Bool) (hd : Bool), DataW.TrodAll enc P W' b sp hd f.resultTypes.toList ((Value.bool true).resultList f.resultTypes.size) (s.fn H (ds ++ [])).results [] := fun _ _ _ => by
  rw [List.append_nil, hfn, hrt]
  exact trodAll_mk1 (shut_bool htb true)
 have hargs : ∀ sp : Nat → Bool, (∀ x ∈ p, sp x.block = true) → DataW.TrodAll enc P W' 0 sp true f.params.toList args.toList (s.fn H (ds ++ [])).args p := fun sp hsp => by
  rw [List.append_nil, hfn]
  exact trodAll_stays hl hts hA (fun x hx => hB.same (hlt x hx)) hsp
 have hvars : ∀ sp : Nat → Bool, DataW.TrodVars enc P W' sp s.vars (s.fn H (ds ++ [])).vars [] := fun sp => by
  rw [List.append_nil, hfn, hsv]
  exact rfl
 refine ⟨ds, [], p ++ [], [], p, [], hW', hres _ _ _, hargs _ (fun x hx => by simpa using hlt x hx), hvars _, World.keptBut_mono (fun x hx => ⟨hx, by simpa using hx⟩) (hB.frame (· ∈ p ++ [])), fun _ => ?_⟩
 refine ⟨ok_one hrt rfl (okWide_bool_mk htb true), _, _, ([] ++ p) ++ [], ⟨[] ++ p, [], trodAll_append (hargs _ (fun _ _ => rfl)) (hres _ _ _), hvars _, rfl, ?_, ?_⟩, ?_⟩
 · intro b off hp
   have hp' : MemPlace.cell b off ∈ p := by simpa using hp
   rw [hB.frozen (p := ⟨b, off, none⟩) (hlt _ hp')]
   exact hz b off (by simpa using hp')
 · intro ha; cases ha
 · intro x hx _
   simpa using hx
end
end Go.AW

namespace Go.AW
open Go.Proofs.Tryz
section
variable {H : Type} {enc : TypeId × Value → H} {w : World}
theorem VC_int {h : Heap} {st : zy7} {k : IntKind} {n : Int} : VC h st (.int k n) [.int k n] := by simp only [VC]
theorem cellsOf_int : prog.cellsOf 3 = 1 := by kernel_rfl
theorem cellsOf_string : prog.cellsOf 9 = 1 := by kernel_rfl
theorem cellsOf_terms : prog.cellsOf 23 = 1 := by kernel_rfl
theorem cellsOf_term : prog.cellsOf 50 = 4 := by kernel_rfl
theorem reads_Tm : ∀ n, Reads enc prog w 50 n Tm.av := by
 intro n
 induction n using Nat.strongRecOn with
 | _ n ih =>
  intro cs x h
  obtain ⟨xs, m, rfl, _, hl, hx, hf⟩ := DataW.trod_struct underlying50 h
  rw [cellsOf_term] at hl
  match cs, hl with
  | [c0, c1, c2, c3], _ =>
   obtain ⟨y0, h0⟩ := rd_field hx hf 0 rfl
   obtain ⟨y1, h1⟩ := rd_field hx hf 1 rfl
   obtain ⟨y2, h2⟩ := rd_field hx hf 2 rfl
   obtain ⟨y3, h3⟩ := rd_field hx hf 3 rfl
   replace h0 : DataW.trod enc prog w 0 (fun _ => true) true m 3 ([c0, c1, c2, c3].take (prog.cellsOf 3)) = some y0 := h0
   replace h1 : DataW.trod enc prog w 0 (fun _ => true) true m 3 ([c1, c2, c3].take (prog.cellsOf 3)) = some y1 := h1
   replace h2 : DataW.trod enc prog w 0 (fun _ => true) true m 9 ([c2, c3].take (prog.cellsOf 9)) = some y2 := h2
   replace h3 : DataW.trod enc prog w 0 (fun _ => true) true m 23 ([c3].take (prog.cellsOf 23)) = some y3 := h3
   rw [cellsOf_int] at h0 h1
   rw [cellsOf_string] at h2
   rw [cellsOf_terms] at h3
   obtain ⟨k, e0, _⟩ := DataW.trod_int underlying3 h0
   obtain ⟨j, e1, _⟩ := DataW.trod_int underlying3 h1
   obtain ⟨s, e2, _, es⟩ := DataW.trod_string underlying9 h2
   obtain ⟨l, e3⟩ := reads_slice (n := m) underlying23 cellsOf_term (by omega) Tm.av_width (fun m' hm => ih m' (by omega)) _ _ h3
   obtain rfl := (List.cons.inj e0).1
   obtain rfl := (List.cons.inj e1).1
   obtain rfl := (List.cons.inj e2).1
   refine ⟨.mk k j s l, ?_⟩
   rw [Tm.av_mk]
   unfold VC
   simp only [VCs]
   exact ⟨_, _, rfl, by simp only [VC], _, _, rfl, by simp only [VC], _, _, rfl, by simp only [VC]; exact ⟨trivial, es⟩, _, _, rfl, e3, rfl⟩
theorem reads_Tms (n : Nat) : Reads enc prog w 23 n (fun l : List Tm => .slice (l.map Tm.av)) :=
 reads_slice underlying23 cellsOf_term (by omega) Tm.av_width fun m _ => reads_Tm m
theorem wide_agg {r : Reach} {b0 : Nat} {t : TypeId} {fs : Array Field} {v : Value} (ht : prog.underlying t = some (.struct fs)) (h : Value.okWide prog w r b0 t v) : vIsAgg v = true := by
 simp only [Value.okWide, ht] at h
 obtain ⟨cs, rfl, _⟩ := h
 rfl
end
end Go.AW
