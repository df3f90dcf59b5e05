import Derived.Test.YtcndknlbedcimaaGreatDoorSeqp
import Derived.Test.YtcndknlbedcimaaGreatDoorSeqn
import Derived.Test.YtcndknlbedcimaaGreatDoorSeql
import Derived.Test.YtcndknlbedcimaaGreatDoorSeqj
import Derived.Test.YtcndknlbedcimaaGreatDoorSeqk
import Derived.Test.YtcndknlbedcimaaGreatDoorSeqo
import Derived.Test.YtcndknlbedcimaaGreatDoorSeqi
import Derived.Test.YtcndknlbedcimaaGreatDoorSeqf
set_option linter.unusedSimpArgs false
set_option linter.unusedVariables false
set_option maxRecDepth 100000
namespace Go.AW
open Go.Proofs.Tryz
def StepI (st0 st' : zy7) (S c m : Nat) (p : List Cl) (q : List Tm) (idx : Bool) (fuel used : Int) (r : AV) : IO' → Prop
 | .go i' => r = .int .i64 (-1) ∧ ∃ qt qc qn mx nd, SrA st0 st' S c m qt qc qn p q idx fuel used mx nd i'
 | .fail i' => BackR st0 st' S c m p q idx fuel used r (iBack p i'.chs.length i')
 | .stop e => r = .int .i64 e ∧ ∃ qt qc qn mx nd i', SrA st0 st' S c m qt qc qn p q idx fuel used mx nd i'
def CndOk (p : List Cl) (idx : Bool) (cnd : Tm → List Nat → List Nat) : Prop :=
 (idx = false → cnd = fun _ l => l)
theorem isCut_T (yn : Int) (ys : ByteArray) (yts : List Tm) (st : zy7) : zq7 prog 86 [(Tm.mk 3 yn ys yts).av] st (fun r st' => r = .bool (cutT (.mk 3 yn ys yts)) ∧ st' = st) := by
 have h := c_isCut 3 yn ys yts st
 have e : (decide ((3 : Int) = 3) && decide ((yts.length : Int) = 0) && decide (ys = ⟨#[33]⟩)) = cutT (.mk 3 yn ys yts) := by
  rw [Bool.eq_iff_iff]
  simp [cutT, Tm.k, Tm.s, Tm.ts, and_comm]
  exact fun _ => ⟨fun h => decide_eq_true h, fun h => of_decide_eq_true h⟩
 rw [e] at h
 exact h
theorem isBuilt_T (yn : Int) (ys : ByteArray) (yts : List Tm) (st : zy7) : zq7 prog 85 [(Tm.mk 3 yn ys yts).av] st (fun r st' => r = .bool (isBuiltin ys (yts.length : Int)) ∧ st' = st) := by
 have h := c_isBuilt 3 yn ys yts st
 rw [show (decide ((3 : Int) = 3) && isBuiltin ys (yts.length : Int)) = isBuiltin ys (yts.length : Int) from rfl] at h
 exact h
abbrev tf_T5_149 := zi tI_3 (zi zI_3 (zi underlying3 (zi tI_4 (zi zI_4 (zi underlying4 (zi tI_29 (zi zI_29 (zi eI_29 (zi eB_29 (zi eZ_29 (zi underlying29 (zi tI_42 (zi zI_42 (zi fI_42_0 (zi fI_42_1 (zi fI_42_2 (zi fI_42_3 (zi bI_42 (zi tI_58 (zi zI_58 (zi eI_58 (zi eB_58 (zi eZ_58 (zi underlying58 (zi tI_85 (zi zI_85 (zi tI_120 (zi zI_120 (zi tI_150 (zi zI_150 (zi fI_150_0 (zi fI_150_1 (zi bI_150 (zi tI_167 (zi zI_167 (zi tI_168 (zi zI_168 (zi eI_168 (zi eB_168 (zi eZ_168 (zi underlying168 (zi tI_169 (zi zI_169 (zi eI_169 (zi eB_169 (zi eZ_169 (zi underlying169 (zi tI_171 (zi zI_171 (zi fI_171_0 (zi fI_171_1 (zi fI_171_2 (zi fI_171_3 (zi fI_171_4 (zi fI_171_5 (zi fI_171_6 (zi fI_171_7 (zi fI_171_8 (zi fI_171_9 (zi fI_171_10 (zi fI_171_11 (zi bI_171 (zi tI_199 (zi zI_199 (zi fI_199_0 (zi fI_199_1 (zi fI_199_2 (zi fI_199_3 (zi bI_199 (zi tI_201 (zi zI_201 (zi fI_201_0 (zi fI_201_1 (zi fI_201_2 bI_201))))))))))))))))))))))))))))))))))))))))))))))))))))))))))))))))))))))))))
set_option maxHeartbeats 2000000 in
theorem c_step {p : List Cl} (hp : ∀ c ∈ p, ClX c ∧ c.2.length ≤ 6) (hpl : p.length ≤ 20) {cnd : Tm → List Nat → List Nat} (hc : ∀ (ρ : Int → Int) (t : Tm) (l : List Nat), cnd (ren ρ t) l = cnd t l) (hd : ∀ t l, (∀ i ∈ cnd t l, i ∈ l) ∧ (cnd t l).length ≤ l.length) {idx : Bool} (hcnd : CndOk p idx cnd) (hidx : idx = false)
 {B M k : Nat} (hB : B + 26 ≤ 524288) (hM : M + 520 ≤ 16777216) (hk : k + 1 ≤ 524288) {st0 st : zy7} {S c m : Nat} {qt qc qn : AV} {q : List Tm} {fuel used : Int} {mx : Int} {nd : List AV} {s : RS} {i : IS} {g : IG} {rest : List IG}
 (h : SrA st0 st S c m qt qc qn p q idx fuel used mx nd i) (hR : RI p B M k s i) (hg : i.goals = g :: rest) (hu0 : 0 ≤ used) (hu : used ≤ 1000000) :
 zq7 prog 149 [.ptr S 0] st (fun r st' => if used = fuel then r = .int .i64 2 ∧ SrA st0 st' S c m qt qc qn p q idx fuel used mx nd i else StepI st0 st' S c m p q idx fuel (used + 1) r (iStep p cnd i g rest)) := by
 have hp1 := fun c h => (hp c h).1
 obtain ⟨hgd, ho, hcl, _⟩ := hR.r.facts
 obtain ⟨hgo, hg3, _⟩ := hR.r.goal hg
 have hct := hR.cut hg
 have hst := hR.step hp hpl hc hd hB hg
 have hchl := hR.chl
 have hnn := hR.n
 have hX := hR.x
 obtain ⟨rk, D, G⟩ := hgd.rs
 have hfo := fit_ok hgd ho hgo
 have hyk : (g.t.mapv (rs i.σ)).k = 3 := by rw [Tm.mapv_k _ (by omega)]; exact hg3
 have hres := c_resolve G (ho.imp fun t ht => ht.1.2.1) (ho.imp fun t ht => ht.1.small) c m qt g.t hgo.1.2.1 hgo.1.small
 generalize hT : iStep p cnd i g rest = T at *
 unfold iStep at hT
 obtain ⟨⟨gk, gn, gs', gts⟩, cut, up⟩ := g
 simp only at hgo hg3 hct hfo hyk hres hT
 generalize (Tm.mk gk gn gs' gts).mapv (rs i.σ) = y at *
 obtain ⟨yk, yn, ys, yts⟩ := y
 obtain rfl : yk = 3 := hyk
 simp only [Tm.s, Tm.ts] at hT
 have hcell := h.cell
 rw [hg, glAv_cons] at hcell
 simp only [srC] at hcell
 obtain ⟨t1, t2, t3, t4, t5⟩ := h.sto.shape
 obtain ⟨n1, n2, n3, n4, n5⟩ := h.acC.shape
 obtain ⟨m1, m2, m3, m4, m5⟩ := h.acN.shape
 obtain ⟨l1, l2, l3, l4, l5, l6⟩ := glAv_facts rest
 refine zq7.dropS ?_
 refine wF [1000000] 1 func149 ntmps149 rfl rfl ?_
 intro _
 simp -implicitDefEqProofs only [zy4, List.length_map, hcell, t1, t2, t4, t5, n1, n2, n4, n5, m1, m2, m4, m5, l1, l2, l4, l5, zy7.upd_same, evF, ↓evZ, implies_true, seval, tf_T5_149]
 refine wX [(0, 1), (1, 1), (2, 1), (3, 1), (4, 1), (5, 1), (6, 1), (7, 1), (8, 1)] [0, 1, 2, 3, 4, 5, 6, 7, 8] _ mixed rfl (ext_one hcell) ?_
 simp -implicitDefEqProofs only [zy4, List.length_map, hcell, t1, t2, t4, t5, n1, n2, n4, n5, m1, m2, m4, m5, l1, l2, l4, l5, zy7.upd_same, one_same, evF, ↓evZ, implies_true, seval, tf_T5_149]
 refine zq4 (fun h1 => ?_) (fun h1 => ?_)
 · have h1' : used = fuel := by simpa using h1
   simp -implicitDefEqProofs only [zy4, List.length_map, hcell, t1, t2, t4, t5, n1, n2, n4, n5, m1, m2, m4, m5, l1, l2, l4, l5, zy7.upd_same, one_same, evF, ↓evZ, implies_true, seval, tf_T5_149]
   exact ⟨st, Drops.refl _, by rw [if_pos h1']; exact h⟩
 have h1' : used ≠ fuel := by simpa using h1
 have hw := wrap64 (n := used + 1) (by omega) (by omega)
 simp -implicitDefEqProofs only [zy4, List.length_map, hcell, hw, t1, t2, t4, t5, n1, n2, n4, n5, m1, m2, m4, m5, l1, l2, l4, l5, zy7.upd_same, one_same, evF, ↓evZ, implies_true, seval, tf_T5_149]
 have h2 := h.put (gl := i.goals) (F := i.fresh) (fuel' := fuel) (used' := used + 1) (mx' := mx) rfl
 rw [hg, glAv_cons] at h2
 simp only [srC] at h2
 generalize zy7.upd st S _ = V at h2 ⊢
 have hcellV := h2.cell
 rw [glAv_cons] at hcellV
 simp only [srC] at hcellV
 have hSV := h2.sto
 have hr := fun (s2 : zy7) (hs2 : ExtS V s2) => hres s2 ⟨hs2 _ _ hSV.sub.cells, hs2 _ _ hSV.sub.map⟩
 unfold optR at hr
 by_cases hf : fitT (.mk 3 yn ys yts) = true
 case neg =>
  rw [if_neg (by unfold fitT at hf; simpa using hf)] at hr
  rw [if_pos (by simpa using hf)] at hT
  subst hT
  simp only [Tm.av_mk, Tm.zero, List.map_nil] at hr
  refine wX [(0, 1), (1, 1), (2, 1), (3, 1), (4, 1), (5, 1), (6, 1), (7, 1), (8, 1), (9, 1), (10, 1), (11, 1), (12, 0), (13, 0), (14, 1)] [0, 1, 2, 3, 4, 5, 6, 7, 8, 9, 10, 11, 14] V mixed rfl (ExtS.refl V) ?_
  simp -implicitDefEqProofs only [zy4, List.length_map, hcellV, t1, t2, t4, t5, n1, n2, n4, n5, m1, m2, m4, m5, l1, l2, l4, l5, zy7.upd_same, one_same, evF, ↓evZ, implies_true, seval, tf_T5_149]
  refine callFX_mk hr ?_
  simp -implicitDefEqProofs only [zy4, List.length_map, hcellV, t1, t2, t4, t5, n1, n2, n4, n5, m1, m2, m4, m5, l1, l2, l4, l5, zy7.upd_same, one_same, evF, ↓evZ, implies_true, seval, tf_T5_149]
  exact fun b hb => ⟨ext_upd hb, ext_upd hb, V, (Drops.refl _).upd hb, by rw [if_neg h1']; exact ⟨rfl, _, _, _, _, _, _, h2⟩⟩
 rw [if_pos (by unfold fitT at hf; simpa using hf)] at hr
 rw [if_neg (by rw [hf]; simp)] at hT
 have hyo := hfo hf
 simp only [Tm.av_mk] at hr
 have hunN : prog.underlying 169 = some (.slice 201) := by kernel_rfl
 refine wX [(0, 1), (1, 1), (2, 1), (3, 1), (4, 1), (5, 1), (6, 1), (7, 1), (8, 1), (9, 1), (10, 1), (11, 1), (12, 0), (13, 0), (14, 1)] [0, 1, 2, 3, 4, 5, 6, 7, 8, 9, 10, 11, 14] V mixed rfl (ExtS.refl V) ?_
 simp -implicitDefEqProofs only [zy4, List.length_map, hcellV, t1, t2, t4, t5, n1, n2, n4, n5, m1, m2, m4, m5, l1, l2, l4, l5, zy7.upd_same, one_same, evF, ↓evZ, implies_true, seval, tf_T5_149]
 refine callFX_mk hr ?_
 simp -implicitDefEqProofs only [zy4, List.length_map, hcellV, t1, t2, t4, t5, n1, n2, n4, n5, m1, m2, m4, m5, l1, l2, l4, l5, zy7.upd_same, one_same, evF, ↓evZ, implies_true, seval, tf_T5_149]
 intro b4 h4
 refine ⟨ext_upd h4, ext_upd h4, ?_⟩
 have h40 := h2.fresh0 h4
 have hSb4 : S ≠ b4 := by rintro rfl; rw [hcellV] at h4; cases h4
 have h3 := h2.box (o := .cells [AV.int IntKind.i64 3, AV.int IntKind.i64 yn, AV.str ys, AV.slice (List.map Tm.av yts)]) h4
 have hb40 : (st0.upd b4 (.cells [AV.int IntKind.i64 3, AV.int IntKind.i64 yn, AV.str ys, AV.slice (List.map Tm.av yts)])) b4 = some (.cells [AV.int IntKind.i64 3, AV.int IntKind.i64 yn, AV.str ys, AV.slice (List.map Tm.av yts)]) := zy7.upd_same _ _ _
 have hun := fun {st' qt qc qn q idx fuel used mx nd i} => SrA.unbox (st0 := st0) (st := st') (S := S) (c := c) (m := m) (qt := qt) (qc := qc) (qn := qn) (p := p) (q := q) (idx := idx) (fuel := fuel) (used := used) (mx := mx) (nd := nd) (i := i) (b := b4) (o := .cells [AV.int IntKind.i64 3, AV.int IntKind.i64 yn, AV.str ys, AV.slice (List.map Tm.av yts)]) (hn := h40)
 generalize V.upd b4 (.cells [AV.int IntKind.i64 3, AV.int IntKind.i64 yn, AV.str ys, AV.slice (List.map Tm.av yts)]) = W at h3 ⊢
 generalize st0.upd b4 (.cells [AV.int IntKind.i64 3, AV.int IntKind.i64 yn, AV.str ys, AV.slice (List.map Tm.av yts)]) = W0 at h3 hb40 hun
 clear hcellV hSV hr h2
 have hcellW := h3.cell
 rw [glAv_cons] at hcellW
 simp only [srC] at hcellW
 have hbW := h3.keep b4 _ hb40
 have hlN := h3.acN.len hunN
 rw [h3.ndl] at hlN
 simp only at hlN
 simp -implicitDefEqProofs only [zy4, List.length_map, hcellW, hbW, hlN, t1, t2, t4, t5, n1, n2, n4, n5, m1, m2, m4, m5, l1, l2, l4, l5, zy7.upd_same, one_same, evF, ↓evZ, implies_true, seval, tf_T5_149]
 obtain ⟨s0, z1, z2, z3⟩ := two_ext hSb4 _ _
 refine wX [(0, 1), (1, 1), (2, 1), (3, 1), (4, 1), (5, 1), (6, 1), (7, 1), (8, 1), (9, 1), (10, 1), (11, 1), (12, 0), (13, 1), (14, 1), (15, 2)] [0, 1, 2, 3, 4, 5, 6, 7, 8, 9, 10, 11, 13, 14] s0 mixed rfl (z3 _ hcellW hbW) ?_
 simp -implicitDefEqProofs only [zy4, List.length_map, z1, z2, hcellW, hbW, hlN, t1, t2, t4, t5, n1, n2, n4, n5, m1, m2, m4, m5, l1, l2, l4, l5, zy7.upd_same, one_same, evF, ↓evZ, implies_true, seval, tf_T5_149]
 refine AccW.append eI_169 eB_169 eZ_169 rfl (by decide) h3.acN rfl rfl (by rw [h3.ndl]; simp only; omega) (fun qn5 s5 hacc hf hn => ?_)
 have hbo : b4 ∉ srO S c m qt qc qn := fun hm => by have := h3.new b4 hm; rw [hb40] at this; cases this
 have hold : ∀ y o, W y = some o → y ∉ ownB qn → s5 y = some o := fun y o hy hq => by
  rw [hf y hq fun hq' => by
   rcases hn y hq' with h' | h'
   · exact hq h'
   · rw [hy] at h'; cases h']
  exact hy
 have hcell5 := hold S _ hcellW h3.parts.2.2.2.2.2.1
 have hb5 := hold b4 _ hbW fun hm => hbo (mem_srO.2 (.inr (.inr (.inr (.inr (.inr hm))))))
 obtain ⟨m1, m2, m3, m4, m5⟩ := hacc.shape
 simp -implicitDefEqProofs only [zy4, List.length_map, z1, z2, hcell5, hb5, t1, t2, t4, t5, n1, n2, n4, n5, m1, m2, m4, m5, l1, l2, l4, l5, zy7.upd_same, one_same, evF, ↓evZ, implies_true, seval, tf_T5_149]
 refine ⟨z3 _ hcell5 hb5, ?_⟩
 have h5 := h3.pushN (n' := i.nn + 1) hacc (by rw [List.length_append, h3.ndl]; rfl) (fun e he => by
  rcases List.mem_append.1 he with he | he
  · exact h3.ndw e he
  · simp only [List.mem_cons, List.not_mem_nil, or_false] at he; subst he; rfl) hf hn rfl
 rw [glAv_cons] at h5
 simp only [srC] at h5
 generalize zy7.upd s5 S _ = W5 at h5 ⊢
 clear hcell5 hb5 hold hf hn hcellW hbW
 have hcell6 := h5.cell
 rw [glAv_cons] at hcell6
 simp only [srC] at hcell6
 have hb6 := h5.keep b4 _ hb40
 have hcutE := isCut_T yn ys yts
 have hbltE := isBuilt_T yn ys yts
 simp only [Tm.av_mk] at hcutE hbltE
 simp -implicitDefEqProofs only [zy4, List.length_map, hcell6, hb6, t1, t2, t4, t5, n1, n2, n4, n5, m1, m2, m4, m5, l1, l2, l4, l5, zy7.upd_same, one_same, evF, ↓evZ, implies_true, seval, tf_T5_149]
 refine (hcutE _).to ?_
 simp -implicitDefEqProofs only [zy4, List.length_map, hcell6, hb6, t1, t2, t4, t5, n1, n2, n4, n5, m1, m2, m4, m5, l1, l2, l4, l5, zy7.upd_same, one_same, evF, ↓evZ, implies_true, seval, tf_T5_149]
 refine zq4 (fun hcu => ?_) (fun hcu => ?_)
 · simp only [hcu, if_true] at hT
   subst hT
   simp -implicitDefEqProofs only [zy4, List.length_map, hcell6, hb6, t1, t2, t4, t5, n1, n2, n4, n5, m1, m2, m4, m5, l1, l2, l4, l5, zy7.upd_same, one_same, evF, ↓evZ, implies_true, seval, tf_T5_149]
   have hsl := fun (φ : AF) (dd : Nat) (h : φ dd = .int .i64 (cut : Int)) => slice_accW eI_168 h5.acC h (by rw [List.length_map]; exact hct)
   have hQ := (h5.acC.take (k := cut) (by rw [List.length_map]; exact hct) (ic_widths _)).shape
   obtain ⟨c1, c2, c3, c4, c5⟩ := hQ
   obtain ⟨s1, y1, y2, y3⟩ := two_ext hSb4 _ _
   refine wX [(0, 1), (1, 1), (2, 1), (3, 1), (4, 1), (5, 1), (6, 1), (7, 1), (8, 1), (9, 1), (10, 1), (11, 1), (12, 2)] [0, 1, 2, 3, 4, 5, 6, 7, 8, 9, 10, 11] s1 mixed rfl (y3 _ hcell6 hb6) ?_
   simp -implicitDefEqProofs only [zy4, List.length_map, y1, y2, hcell6, hb6, hsl, c1, c2, c4, c5, t1, t2, t4, t5, n1, n2, n4, n5, m1, m2, m4, m5, l1, l2, l4, l5, zy7.upd_same, one_same, evF, ↓evZ, implies_true, seval, tf_T5_149]
   refine ⟨_, Drops.refl _, ?_⟩
   rw [if_neg h1']
   have h6 := h5.cutC (k := cut) (gl := rest) hct rfl
   exact ⟨rfl, _, _, _, _, _, hun h6⟩
 simp only [hcu, Bool.false_eq_true, if_false] at hT
 simp -implicitDefEqProofs only [zy4, List.length_map, hcell6, hb6, t1, t2, t4, t5, n1, n2, n4, n5, m1, m2, m4, m5, l1, l2, l4, l5, zy7.upd_same, one_same, evF, ↓evZ, implies_true, seval, tf_T5_149]
 refine (hbltE _).to ?_
 simp -implicitDefEqProofs only [zy4, List.length_map, hcell6, hb6, t1, t2, t4, t5, n1, n2, n4, n5, m1, m2, m4, m5, l1, l2, l4, l5, zy7.upd_same, one_same, evF, ↓evZ, implies_true, seval, tf_T5_149]
 refine zq4 (fun hbl => ?_) (fun hbl => ?_)
 · simp only [hbl, if_true] at hT
   have hks : ∀ x ∈ yts, OkX i.fresh x := okX_kids _ (.mk 3 yn ys yts) (show (3 : Int) ≠ 1 by decide) hyo
   have hcall := c_callG hgd ho yn ys yts hbl hks c m qt i.tr W5 h5.sto (by have := hX.trl; have := hX.phi; omega)
   simp only [Tm.av_mk] at hcall
   replace hT : (if (solveG i.σ ys yts).1 = 0 then IO'.go { goals := rest, σ := (solveG i.σ ys yts).2.1, tr := i.tr ++ (solveG i.σ ys yts).2.2, chs := i.chs, fresh := i.fresh, nn := i.nn + 1 } else if (solveG i.σ ys yts).1 = 1 then IO'.fail { goals := i.goals, σ := (solveG i.σ ys yts).2.1, tr := i.tr ++ (solveG i.σ ys yts).2.2, chs := i.chs, fresh := i.fresh, nn := i.nn + 1 } else IO'.stop (endC (solveG i.σ ys yts).1)) = T := hT
   generalize hsol : solveG i.σ ys yts = Z at hcall hT
   obtain ⟨code, σ', add⟩ := Z
   simp only at hT
   obtain ⟨s1, y1, y2, y3⟩ := two_ext hSb4 _ _
   refine wX [(0, 1), (1, 1), (2, 1), (3, 1), (4, 1), (5, 0), (6, 1)] [0, 1, 2, 3, 4, 6] s1 mixed rfl (y3 _ hcell6 hb6) ?_
   simp -implicitDefEqProofs only [zy4, List.length_map, y1, y2, hcell6, hb6, t1, t2, t4, t5, n1, n2, n4, n5, m1, m2, m4, m5, l1, l2, l4, l5, zy7.upd_same, one_same, evF, ↓evZ, implies_true, seval, tf_T5_149]
   refine hcall.mono ?_
   rintro _ s6 ⟨rfl, hP⟩
   obtain ⟨qt6, h6⟩ := h5.post hP
   have hcell7 := h6.cell
   rw [glAv_cons] at hcell7
   simp only [srC] at hcell7
   have hb7 := h6.keep b4 _ hb40
   obtain ⟨t1, t2, t3, t4, t5⟩ := h6.sto.shape
   simp -implicitDefEqProofs only [zy4, List.length_map, hcell7, hb7, t1, t2, t4, t5, n1, n2, n4, n5, m1, m2, m4, m5, l1, l2, l4, l5, zy7.upd_same, one_same, evF, ↓evZ, implies_true, seval, tf_T5_149]
   refine ⟨y3 _ hcell7 hb7, ?_⟩
   refine zq4 (fun hc0 => ?_) (fun hc0 => ?_)
   · have hc0' : code = 0 := by simpa using hc0
     rw [if_pos hc0'] at hT
     subst hT
     simp -implicitDefEqProofs only [zy4, List.length_map, hcell7, hb7, t1, t2, t4, t5, n1, n2, n4, n5, m1, m2, m4, m5, l1, l2, l4, l5, zy7.upd_same, one_same, evF, ↓evZ, implies_true, seval, tf_T5_149]
     refine ⟨_, Drops.refl _, ?_⟩
     rw [if_neg h1']
     exact ⟨rfl, _, _, _, _, _, hun (h6.put (gl := rest) (F := i.fresh) (fuel' := fuel) (used' := used + 1) (mx' := mx) rfl)⟩
   have hc0' : code ≠ 0 := by simpa using hc0
   rw [if_neg hc0'] at hT
   simp -implicitDefEqProofs only [zy4, List.length_map, hcell7, hb7, t1, t2, t4, t5, n1, n2, n4, n5, m1, m2, m4, m5, l1, l2, l4, l5, zy7.upd_same, one_same, evF, ↓evZ, implies_true, seval, tf_T5_149]
   refine zq4 (fun hc1 => ?_) (fun hc1 => ?_)
   · have hc1' : code = 1 := by simpa using hc1
     rw [if_pos hc1'] at hT
     subst hT
     simp only at hst
     rw [← hg] at h6
     have hbk := c_back hp (M := M + 520) (by omega) _ _ _ _ _ _ ({ goals := i.goals, σ := σ', tr := i.tr ++ add, chs := i.chs, fresh := i.fresh, nn := i.nn + 1 } : IS) s.chs (T := iBack p (({ goals := i.goals, σ := σ', tr := i.tr ++ add, chs := i.chs, fresh := i.fresh, nn := i.nn + 1 } : IS)).chs.length ({ goals := i.goals, σ := σ', tr := i.tr ++ add, chs := i.chs, fresh := i.fresh, nn := i.nn + 1 } : IS)) ⟨h6, hst.1, hst.2.1, rfl, ⟨by rw [hst.1.len]; have := hR.a.a.chl; omega, Nat.le_trans hst.2.2.1 (by omega)⟩⟩
     simp -implicitDefEqProofs only [zy4, List.length_map, hcell7, hb7, t1, t2, t4, t5, n1, n2, n4, n5, m1, m2, m4, m5, l1, l2, l4, l5, zy7.upd_same, one_same, evF, ↓evZ, implies_true, seval, tf_T5_149]
     refine hbk.mono ?_
     rintro r s7 hr
     simp -implicitDefEqProofs only [zy4, List.length_map, hcell7, hb7, t1, t2, t4, t5, n1, n2, n4, n5, m1, m2, m4, m5, l1, l2, l4, l5, zy7.upd_same, one_same, evF, ↓evZ, implies_true, seval, tf_T5_149]
     refine ⟨s7, Drops.refl _, ?_⟩
     rw [if_neg h1']
     simp only [StepI]
     cases hB2 : iBack p (({ goals := i.goals, σ := σ', tr := i.tr ++ add, chs := i.chs, fresh := i.fresh, nn := i.nn + 1 } : IS)).chs.length ({ goals := i.goals, σ := σ', tr := i.tr ++ add, chs := i.chs, fresh := i.fresh, nn := i.nn + 1 } : IS) with
     | none =>
      rw [hB2] at hr
      obtain ⟨e1, qt7, qc7, qn7, mx7, nd7, i7, h7⟩ := hr
      exact ⟨e1, _, _, _, _, _, _, hun h7⟩
     | some i7 =>
      rw [hB2] at hr
      obtain ⟨e1, qt7, qc7, qn7, mx7, nd7, h7⟩ := hr
      exact ⟨e1, _, _, _, _, _, hun h7⟩
   have hc1' : code ≠ 1 := by simpa using hc1
   rw [if_neg hc1'] at hT
   subst hT
   simp -implicitDefEqProofs only [zy4, List.length_map, hcell7, hb7, t1, t2, t4, t5, n1, n2, n4, n5, m1, m2, m4, m5, l1, l2, l4, l5, zy7.upd_same, one_same, evF, ↓evZ, implies_true, seval, tf_T5_149]
   refine (c_endOf code _).to ?_
   simp -implicitDefEqProofs only [zy4, List.length_map, hcell7, hb7, t1, t2, t4, t5, n1, n2, n4, n5, m1, m2, m4, m5, l1, l2, l4, l5, zy7.upd_same, one_same, evF, ↓evZ, implies_true, seval, tf_T5_149]
   refine ⟨_, Drops.refl _, ?_⟩
   rw [if_neg h1']
   exact ⟨rfl, _, _, _, _, _, _, hun h6⟩
 simp only [hbl, Bool.false_eq_true, if_false] at hT
 have hpr := c_pred 3 yn ys yts
 have hcf := c_clausesFor p (.mk 3 yn ys yts) (by omega)
 simp only [Tm.av_mk, Tm.s, Tm.ts] at hpr hcf
 obtain ⟨s1, y1, y2, y3⟩ := two_ext hSb4 _ _
 simp -implicitDefEqProofs only [zy4, List.length_map, hcell6, hb6, t1, t2, t4, t5, n1, n2, n4, n5, m1, m2, m4, m5, l1, l2, l4, l5, zy7.upd_same, one_same, evF, ↓evZ, implies_true, seval, tf_T5_149]
 refine wX [(0, 1), (1, 1), (2, 1), (3, 1), (4, 1), (5, 0), (6, 0), (7, 1)] [0, 1, 2, 3, 4, 7] s1 mixed rfl (y3 _ hcell6 hb6) ?_
 simp -implicitDefEqProofs only [zy4, List.length_map, y1, y2, hcell6, hb6, t1, t2, t4, t5, n1, n2, n4, n5, m1, m2, m4, m5, l1, l2, l4, l5, zy7.upd_same, one_same, evF, ↓evZ, implies_true, seval, tf_T5_149]
 refine (hpr _).to ?_
 simp -implicitDefEqProofs only [zy4, List.length_map, y1, y2, hcell6, hb6, t1, t2, t4, t5, n1, n2, n4, n5, m1, m2, m4, m5, l1, l2, l4, l5, zy7.upd_same, one_same, evF, ↓evZ, implies_true, seval, tf_T5_149]
 refine ⟨y3 _ hcell6 hb6, ?_⟩
 refine (hcf _).to ?_
 simp -implicitDefEqProofs only [zy4, List.length_map, y1, y2, hcell6, hb6, t1, t2, t4, t5, n1, n2, n4, n5, m1, m2, m4, m5, l1, l2, l4, l5, zy7.upd_same, one_same, evF, ↓evZ, implies_true, seval, tf_T5_149]
 refine ⟨y3 _ hcell6 hb6, ?_⟩
 refine zq4 (fun hl0 => ?_) (fun hl0 => ?_)
 · have hl0' : forL p (.mk 3 yn ys yts) = [] := by simpa using hl0
   rw [if_pos hl0'] at hT
   subst hT
   simp -implicitDefEqProofs only [zy4, List.length_map, y1, y2, hcell6, hb6, t1, t2, t4, t5, n1, n2, n4, n5, m1, m2, m4, m5, l1, l2, l4, l5, zy7.upd_same, one_same, evF, ↓evZ, implies_true, seval, tf_T5_149]
   refine ⟨_, Drops.refl _, ?_⟩
   rw [if_neg h1']
   exact ⟨rfl, _, _, _, _, _, _, hun h5⟩
 have hl0' : forL p (.mk 3 yn ys yts) ≠ [] := by simpa using hl0
 rw [if_neg hl0'] at hT
 subst hidx
 obtain rfl := hcnd rfl
 have hfl := forL_len p (.mk 3 yn ys yts)
 have h5' := h5
 rw [← hg] at h5'
 have htry := c_try hp (M := M + 520) (by omega) h5' (.mk 3 yn ys yts) i.nn rest (forL p (.mk 3 yn ys yts)) hgd ho hyo (forL_lt _ _) (by omega) (by simp only; omega) (hX.up (Nat.le_add_right M 520)).node (by have := hX.phi; simp only; omega) (by simp only; omega) (by simp only; omega)
 simp only [Tm.av_mk] at htry
 simp -implicitDefEqProofs only [zy4, List.length_map, y1, y2, hcell6, hb6, t1, t2, t4, t5, n1, n2, n4, n5, m1, m2, m4, m5, l1, l2, l4, l5, zy7.upd_same, one_same, evF, ↓evZ, implies_true, seval, tf_T5_149]
 refine wX [(0, 1), (1, 1), (2, 1), (3, 1), (4, 1), (5, 1), (6, 1), (7, 1), (8, 2)] [0, 1, 2, 3, 4, 5, 6, 7] s1 mixed rfl (y3 _ hcell6 hb6) ?_
 simp -implicitDefEqProofs only [zy4, List.length_map, y1, y2, hcell6, hb6, t1, t2, t4, t5, n1, n2, n4, n5, m1, m2, m4, m5, l1, l2, l4, l5, zy7.upd_same, one_same, evF, ↓evZ, implies_true, seval, tf_T5_149]
 refine htry.mono ?_
 rintro _ s6 ⟨rfl, qt6, qc6, mx6, nd6, h6⟩
 simp -implicitDefEqProofs only [zy4, List.length_map, y1, y2, hcell6, hb6, t1, t2, t4, t5, n1, n2, n4, n5, m1, m2, m4, m5, l1, l2, l4, l5, zy7.upd_same, one_same, evF, ↓evZ, implies_true, seval, tf_T5_149]
 refine zq4 (fun ht0 => ?_) (fun ht0 => ?_)
 · simp only [ht0, if_true] at hT
   subst hT
   simp -implicitDefEqProofs only [zy4, List.length_map, y1, y2, hcell6, hb6, t1, t2, t4, t5, n1, n2, n4, n5, m1, m2, m4, m5, l1, l2, l4, l5, zy7.upd_same, one_same, evF, ↓evZ, implies_true, seval, tf_T5_149]
   refine ⟨_, Drops.refl _, ?_⟩
   rw [if_neg h1']
   exact ⟨rfl, _, _, _, _, _, hun h6⟩
 simp only [ht0, Bool.false_eq_true, if_false] at hT
 subst hT
 simp only at hst
 have hbk := c_back hp (M := M + 520) (by omega) _ _ _ _ _ _ (iTry p (.mk 3 yn ys yts) i.nn rest (forL p (.mk 3 yn ys yts)) { i with nn := i.nn + 1 }).2 s.chs (T := iBack p ((iTry p (.mk 3 yn ys yts) i.nn rest (forL p (.mk 3 yn ys yts)) { i with nn := i.nn + 1 }).2).chs.length (iTry p (.mk 3 yn ys yts) i.nn rest (forL p (.mk 3 yn ys yts)) { i with nn := i.nn + 1 }).2) ⟨h6, hst.1, hst.2.1, rfl, ⟨by rw [hst.1.len]; have := hR.a.a.chl; omega, Nat.le_trans hst.2.2.1 (by omega)⟩⟩
 simp -implicitDefEqProofs only [zy4, List.length_map, y1, y2, hcell6, hb6, t1, t2, t4, t5, n1, n2, n4, n5, m1, m2, m4, m5, l1, l2, l4, l5, zy7.upd_same, one_same, evF, ↓evZ, implies_true, seval, tf_T5_149]
 refine hbk.mono ?_
 rintro r s7 hr
 simp -implicitDefEqProofs only [zy4, List.length_map, y1, y2, hcell6, hb6, t1, t2, t4, t5, n1, n2, n4, n5, m1, m2, m4, m5, l1, l2, l4, l5, zy7.upd_same, one_same, evF, ↓evZ, implies_true, seval, tf_T5_149]
 refine ⟨s7, Drops.refl _, ?_⟩
 rw [if_neg h1']
 simp only [StepI]
 cases hB2 : iBack p ((iTry p (.mk 3 yn ys yts) i.nn rest (forL p (.mk 3 yn ys yts)) { i with nn := i.nn + 1 }).2).chs.length (iTry p (.mk 3 yn ys yts) i.nn rest (forL p (.mk 3 yn ys yts)) { i with nn := i.nn + 1 }).2 with
 | none =>
  rw [hB2] at hr
  obtain ⟨e1, qt7, qc7, qn7, mx7, nd7, i7, h7⟩ := hr
  exact ⟨e1, _, _, _, _, _, _, hun h7⟩
 | some i7 =>
  rw [hB2] at hr
  obtain ⟨e1, qt7, qc7, qn7, mx7, nd7, h7⟩ := hr
  exact ⟨e1, _, _, _, _, _, hun h7⟩
theorem findB_dn {bs : List Bd} (h : ∀ b ∈ bs, Dn b.2) (n : Int) : ∀ x, findB bs n = some x → Dn x := by
 induction bs with
 | nil => intro x h; cases h
 | cons y l ih =>
  obtain ⟨m, t⟩ := y
  intro x hx
  simp only [findB] at hx
  split at hx
  · cases hx; exact h (m, _) (by simp)
  · exact ih (fun b hb => h b (by simp [hb])) x hx
theorem subB_dn {bs : List Bd} (h : ∀ b ∈ bs, Dn b.2) (n : Int) : Dn (subB bs n) := by
 unfold subB
 cases hf : findB bs n with
 | none => exact dn_vr n
 | some x => exact findB_dn h n x hf
theorem mapv_dn {f : Int → Tm} (hf : ∀ n, Dn (f n)) : ∀ t : Tm, Dn t → Dn (t.mapv f) := by
 intro t
 induction t using Tm.ind with
 | h k n s ts ih =>
  rintro ⟨h1, h2⟩
  by_cases hk : k = 1
  · rw [Tm.mapv_var f hk]; exact hf n
  · obtain ⟨_, a2⟩ := Tm.cv_mk.1 h1
    obtain ⟨b1, b2⟩ := Tm.small_mk h2
    rw [Tm.mapv_mk f hk]
    refine dn_mk hk (by rw [List.length_map]; exact b1) fun x hx => ?_
    obtain ⟨y, hy, rfl⟩ := List.mem_map.1 hx
    exact ih y hy ⟨a2 y hy, b2 y hy⟩
theorem c_l3ApplyF (bs : List Bd) (hbs : ∀ b ∈ bs, b.2.small = true) (t : Tm) (st : zy7) (h1 : t.small = true) (h2 : t.cv = true) :
 zq7 prog 99 [t.av, .fslice (bs.map bdAv)] st (fun r st' => r = (t.mapv (subB bs)).av ∧ st' = st) :=
 zq7.softArgs (by simp only [softL, AV.soft, Tm.soft]; exact c_l3Apply bs hbs t st h1 h2)
abbrev tf_D4_49 := zi tI_2 (zi zI_2 (zi underlying2 (zi tI_3 (zi zI_3 (zi underlying3 (zi tI_4 (zi zI_4 (zi underlying4 (zi tI_40 (zi zI_40 (zi eI_40 (zi eB_40 (zi eZ_40 (zi underlying40 (zi tI_42 (zi zI_42 (zi fI_42_0 (zi fI_42_1 (zi fI_42_2 (zi fI_42_3 (zi bI_42 (zi tI_45 (zi zI_45 (zi eI_45 (zi eB_45 (zi eZ_45 (zi underlying45 (zi tI_95 (zi zI_95 (zi fI_95_0 (zi fI_95_1 (zi bI_95 (zi tI_99 zI_99)))))))))))))))))))))))))))))))))
theorem c_l3Two (bs : List Bt) (st : zy7) : zq7 prog 49 [.slice (bs.map byteAv)] st (fun r st' => (∃ a b : Tm, r = .tup [a.av, b.av]) ∧ st' = st) := by
 refine zq7.drop (Q := fun r => ∃ a b : Tm, r = .tup [a.av, b.av]) ?_
 refine wF [1000000, 7] 1 func49 ntmps49 rfl rfl ?_
 intro _
 simp -implicitDefEqProofs only [zy4, evF, ↓evZ, implies_true, seval, tf_D4_49]
 intro b2 h2 b3 h3
 have h32 : b3 ≠ b2 := by rintro rfl; rw [zy7.upd_same] at h3; cases h3
 have hn3 : st b3 = none := by rw [zy7.upd_ne st _ h32] at h3; exact h3
 refine (c_l18Open bs _).mono ?_
 rintro _ _ ⟨c, bs, rfl, hc, rfl⟩
 have hc3 : c ≠ b3 := by rintro rfl; rw [zy7.upd_same] at hc; cases hc
 have hc2 : c ≠ b2 := by rintro rfl; rw [zy7.upd_ne _ _ h32.symm, zy7.upd_same] at hc; cases hc
 have hnc : st c = none := by rw [zy7.upd_ne _ _ hc3, zy7.upd_ne _ _ hc2] at hc; exact hc
 simp -implicitDefEqProofs only [zy4, evF, ↓evZ, implies_true, seval, tf_D4_49]
 refine (c_l1Some bs c 0 _ (by omega) RdAt.new).mono ?_
 rintro _ _ ⟨p1, _, hp1, rfl, a, ha, rfl⟩
 rw [zy7.upd_upd]
 simp -implicitDefEqProofs only [Tm.av_agg, Tm.av_width, Tm.av_store, Tm.av_junk, zy4, evF, ↓evZ, implies_true, seval, tf_D4_49]
 refine (c_l1Draw bs c 2 p1 _ (by omega) (by omega) RdAt.new).mono ?_
 rintro _ _ ⟨p2, _, hp2, rfl, t1, ht1, rfl⟩
 rw [zy7.upd_upd]
 simp -implicitDefEqProofs only [Tm.av_agg, Tm.av_width, Tm.av_store, Tm.av_junk, zy4, evF, ↓evZ, implies_true, seval, tf_D4_49]
 refine (c_l1Draw bs c 1 p2 _ (by omega) (by omega) RdAt.new).mono ?_
 rintro _ _ ⟨p3, _, hp3, rfl, t2, ht2, rfl⟩
 rw [zy7.upd_upd]
 simp -implicitDefEqProofs only [Tm.av_agg, Tm.av_width, Tm.av_store, Tm.av_junk, zy4, evF, ↓evZ, implies_true, seval, tf_D4_49]
 refine (c_l1Draw bs c 2 p3 _ (by omega) (by omega) RdAt.new).mono ?_
 rintro _ _ ⟨p4, _, hp4, rfl, t3, ht3, rfl⟩
 rw [zy7.upd_upd]
 have hbd : ∀ x ∈ [((0 : Int), t1), (1, t2), (2, t3)], Dn x.2 := by
  intro x hx
  simp only [List.mem_cons, List.not_mem_nil, or_false] at hx
  rcases hx with rfl | rfl | rfl <;> assumption
 have hp4' : p4 ≤ 6000 := by simp at hp1 hp2 hp3 hp4; omega
 simp -implicitDefEqProofs only [Tm.av_agg, Tm.av_width, Tm.av_store, Tm.av_junk, zy4, evF, ↓evZ, implies_true, seval, tf_D4_49]
 refine (c_l3ApplyF [(0, t1), (1, t2), (2, t3)] (fun b hb => (hbd b hb).2) a _ ha.2 ha.1).to ?_
 have hb0 : Dn (a.mapv (subB [(0, t1), (1, t2), (2, t3)])) := mapv_dn (subB_dn hbd) a ha
 generalize a.mapv (subB [(0, t1), (1, t2), (2, t3)]) = b at *
 simp -implicitDefEqProofs only [Tm.av_agg, Tm.av_width, Tm.av_store, Tm.av_junk, Tm.av_cells, zy4, evF, ↓evZ, implies_true, seval, tf_D4_49]
 intro b7 h7
 have h7c : b7 ≠ c := by rintro rfl; rw [zy7.upd_same] at h7; cases h7
 have h73 : b7 ≠ b3 := by rintro rfl; rw [zy7.upd_ne _ _ h7c, zy7.upd_same] at h7; cases h7
 have h72 : b7 ≠ b2 := by rintro rfl; rw [zy7.upd_ne _ _ h7c, zy7.upd_ne _ _ h73, zy7.upd_same] at h7; cases h7
 have hn7 : st b7 = none := by rw [zy7.upd_ne _ _ h7c, zy7.upd_ne _ _ h73, zy7.upd_ne _ _ h72] at h7; exact h7
 have hdr : ∀ o2 o3 oc o7 o2' o3', Drops ((((((st.upd b2 o2).upd b3 o3).upd c oc).upd b7 o7).upd b2 o2').upd b3 o3') st := fun o2 o3 oc o7 o2' o3' x => by
  by_cases e2 : x = b2 <;> by_cases e3 : x = b3 <;> by_cases ec : x = c <;> by_cases e7 : x = b7 <;> simp_all [zy7.upd]
 refine (c_pick bs c p4 (by omega) 4 (by omega) (by omega) _ (RdAt.new.upd h7c)).mono ?_
 rintro _ _ ⟨j, hj, rfl, rfl⟩
 rw [zy7.upd_mid h7c, zy7.upd_comm _ _ _ h7c]
 simp -implicitDefEqProofs only [zy4, Tm.av_agg, Tm.av_width, Tm.av_store, Tm.av_junk, Tm.av_cells, h32, h32.symm, hc3, hc3.symm, hc2, hc2.symm, h7c, h7c.symm, h73, h73.symm, h72, h72.symm, evF, ↓evZ, implies_true, seval, tf_D4_49]
 refine zq4 (fun h0 => ?_) (fun h0 => ?_)
 · simp -implicitDefEqProofs only [zy4, Tm.av_agg, Tm.av_width, Tm.av_store, Tm.av_junk, Tm.av_cells, h32, h32.symm, hc3, hc3.symm, hc2, hc2.symm, h7c, h7c.symm, h73, h73.symm, h72, h72.symm, evF, ↓evZ, implies_true, seval, tf_D4_49]
   refine (c_l1Some bs c (p4 + 1) _ (by omega) (RdAt.new.upd h7c)).mono ?_
   rintro _ _ ⟨p5, _, hp5, rfl, b', hb', rfl⟩
   rw [zy7.upd_mid h7c, zy7.upd_comm _ _ _ h7c]
   simp -implicitDefEqProofs only [zy4, Tm.av_agg, Tm.av_width, Tm.av_store, Tm.av_junk, Tm.av_cells, h32, h32.symm, hc3, hc3.symm, hc2, hc2.symm, h7c, h7c.symm, h73, h73.symm, h72, h72.symm, evF, ↓evZ, implies_true, seval, tf_D4_49]
   clear hb0
   have hb0 := hb'
   refine zq5 [(0, 1), (1, 1), (3, 1), (4, 1), (2, 0), (5, 2), (6, 2), (7, 2)] [0, 1, 3, 4] (none0'.upd b7 (.cells (b').av.cells)) mixed (by decide +kernel) (by decide +kernel) (by decide +kernel) rfl (ext_one (zy7.upd_same _ _ _)) ?_
   simp -implicitDefEqProofs only [take_all (Tm.av_cells (b')), agg_cells (Tm.av_agg (b')), Nat.le_refl, zy4, Tm.av_agg, Tm.av_width, Tm.av_store, Tm.av_junk, Tm.av_cells, h32, h32.symm, hc3, hc3.symm, hc2, hc2.symm, h7c, h7c.symm, h73, h73.symm, h72, h72.symm, evF, ↓evZ, implies_true, seval, tf_D4_49]
   refine (c_l1Mutate bs c (p5) a ha.2 _ (by omega) (RdAt.new.upd h7c)).mono ?_
   rintro _ _ ⟨q1, hq1, hq1', rfl, a1, rfl⟩
   rw [zy7.upd_mid h7c, zy7.upd_comm _ _ _ h7c]
   simp -implicitDefEqProofs only [zy4, Tm.av_agg, Tm.av_width, Tm.av_store, Tm.av_junk, Tm.av_cells, h32, h32.symm, hc3, hc3.symm, hc2, hc2.symm, h7c, h7c.symm, h73, h73.symm, h72, h72.symm, evF, ↓evZ, implies_true, seval, tf_D4_49]
   refine ⟨ext_one (zy7.upd_same _ _ _), ?_⟩
   refine (c_l1Mutate bs c q1 (b') hb0.2 _ (by omega) (RdAt.new.upd h7c)).mono ?_
   rintro _ _ ⟨q2, hq2, hq2', rfl, a2, rfl⟩
   rw [zy7.upd_mid h7c, zy7.upd_comm _ _ _ h7c]
   simp -implicitDefEqProofs only [take_all (Tm.av_cells a1), agg_cells (Tm.av_agg a1), take_all (Tm.av_cells a2), agg_cells (Tm.av_agg a2), Nat.le_refl, zy4, Tm.av_agg, Tm.av_width, Tm.av_store, Tm.av_junk, Tm.av_cells, h32, h32.symm, hc3, hc3.symm, hc2, hc2.symm, h7c, h7c.symm, h73, h73.symm, h72, h72.symm, evF, ↓evZ, implies_true, seval, tf_D4_49]
   exact ⟨hdr _ _ _ _ _ _, a1, a2, rfl⟩
 · simp -implicitDefEqProofs only [zy4, Tm.av_agg, Tm.av_width, Tm.av_store, Tm.av_junk, Tm.av_cells, h32, h32.symm, hc3, hc3.symm, hc2, hc2.symm, h7c, h7c.symm, h73, h73.symm, h72, h72.symm, evF, ↓evZ, implies_true, seval, tf_D4_49]
   refine zq4 (fun h1 => ?_) (fun h1 => ?_)
   · simp -implicitDefEqProofs only [zy4, Tm.av_agg, Tm.av_width, Tm.av_store, Tm.av_junk, Tm.av_cells, h32, h32.symm, hc3, hc3.symm, hc2, hc2.symm, h7c, h7c.symm, h73, h73.symm, h72, h72.symm, evF, ↓evZ, implies_true, seval, tf_D4_49]
     refine zq5 [(0, 1), (1, 1), (2, 0), (3, 2), (4, 2)] [0, 1] (none0'.upd b7 (.cells b.av.cells)) mixed (by decide +kernel) (by decide +kernel) (by decide +kernel) rfl (ext_one (zy7.upd_same _ _ _)) ?_
     simp -implicitDefEqProofs only [take_all (Tm.av_cells b), agg_cells (Tm.av_agg b), Nat.le_refl, zy4, Tm.av_agg, Tm.av_width, Tm.av_store, Tm.av_junk, Tm.av_cells, h32, h32.symm, hc3, hc3.symm, hc2, hc2.symm, h7c, h7c.symm, h73, h73.symm, h72, h72.symm, evF, ↓evZ, implies_true, seval, tf_D4_49]
     refine (c_pick bs c (p4 + 1) (by omega) 3 (by omega) (by omega) _ (RdAt.new.upd h7c)).mono ?_
     rintro _ _ ⟨j2, hj2, rfl, rfl⟩
     rw [zy7.upd_mid h7c, zy7.upd_comm _ _ _ h7c]
     simp -implicitDefEqProofs only [zy4, Tm.av_agg, Tm.av_width, Tm.av_store, Tm.av_junk, Tm.av_cells, h32, h32.symm, hc3, hc3.symm, hc2, hc2.symm, h7c, h7c.symm, h73, h73.symm, h72, h72.symm, evF, ↓evZ, implies_true, seval, tf_D4_49]
     refine ⟨ext_one (zy7.upd_same _ _ _), ?_⟩
     refine (c_l3Shift (j2 : Int) b _ hb0.2).to ?_
     simp -implicitDefEqProofs only [zy4, Tm.av_agg, Tm.av_width, Tm.av_store, Tm.av_junk, Tm.av_cells, h32, h32.symm, hc3, hc3.symm, hc2, hc2.symm, h7c, h7c.symm, h73, h73.symm, h72, h72.symm, evF, ↓evZ, implies_true, seval, tf_D4_49]
     replace hb0 := dn_sh (j2 : Int) b hb0
     refine zq5 [(0, 1), (1, 1), (3, 1), (4, 1), (2, 0), (5, 2), (6, 2), (7, 2)] [0, 1, 3, 4] (none0'.upd b7 (.cells (b.sh (j2 : Int)).av.cells)) mixed (by decide +kernel) (by decide +kernel) (by decide +kernel) rfl (ext_one (zy7.upd_same _ _ _)) ?_
     simp -implicitDefEqProofs only [take_all (Tm.av_cells (b.sh (j2 : Int))), agg_cells (Tm.av_agg (b.sh (j2 : Int))), Nat.le_refl, zy4, Tm.av_agg, Tm.av_width, Tm.av_store, Tm.av_junk, Tm.av_cells, h32, h32.symm, hc3, hc3.symm, hc2, hc2.symm, h7c, h7c.symm, h73, h73.symm, h72, h72.symm, evF, ↓evZ, implies_true, seval, tf_D4_49]
     refine (c_l1Mutate bs c (p4 + 1 + 1) a ha.2 _ (by omega) (RdAt.new.upd h7c)).mono ?_
     rintro _ _ ⟨q1, hq1, hq1', rfl, a1, rfl⟩
     rw [zy7.upd_mid h7c, zy7.upd_comm _ _ _ h7c]
     simp -implicitDefEqProofs only [zy4, Tm.av_agg, Tm.av_width, Tm.av_store, Tm.av_junk, Tm.av_cells, h32, h32.symm, hc3, hc3.symm, hc2, hc2.symm, h7c, h7c.symm, h73, h73.symm, h72, h72.symm, evF, ↓evZ, implies_true, seval, tf_D4_49]
     refine ⟨ext_one (zy7.upd_same _ _ _), ?_⟩
     refine (c_l1Mutate bs c q1 (b.sh (j2 : Int)) hb0.2 _ (by omega) (RdAt.new.upd h7c)).mono ?_
     rintro _ _ ⟨q2, hq2, hq2', rfl, a2, rfl⟩
     rw [zy7.upd_mid h7c, zy7.upd_comm _ _ _ h7c]
     simp -implicitDefEqProofs only [take_all (Tm.av_cells a1), agg_cells (Tm.av_agg a1), take_all (Tm.av_cells a2), agg_cells (Tm.av_agg a2), Nat.le_refl, zy4, Tm.av_agg, Tm.av_width, Tm.av_store, Tm.av_junk, Tm.av_cells, h32, h32.symm, hc3, hc3.symm, hc2, hc2.symm, h7c, h7c.symm, h73, h73.symm, h72, h72.symm, evF, ↓evZ, implies_true, seval, tf_D4_49]
     exact ⟨hdr _ _ _ _ _ _, a1, a2, rfl⟩
   · simp -implicitDefEqProofs only [zy4, Tm.av_agg, Tm.av_width, Tm.av_store, Tm.av_junk, Tm.av_cells, h32, h32.symm, hc3, hc3.symm, hc2, hc2.symm, h7c, h7c.symm, h73, h73.symm, h72, h72.symm, evF, ↓evZ, implies_true, seval, tf_D4_49]
     refine zq5 [(0, 1), (1, 1), (3, 1), (4, 1), (2, 0), (5, 2), (6, 2), (7, 2)] [0, 1, 3, 4] (none0'.upd b7 (.cells (b).av.cells)) mixed (by decide +kernel) (by decide +kernel) (by decide +kernel) rfl (ext_one (zy7.upd_same _ _ _)) ?_
     simp -implicitDefEqProofs only [take_all (Tm.av_cells (b)), agg_cells (Tm.av_agg (b)), Nat.le_refl, zy4, Tm.av_agg, Tm.av_width, Tm.av_store, Tm.av_junk, Tm.av_cells, h32, h32.symm, hc3, hc3.symm, hc2, hc2.symm, h7c, h7c.symm, h73, h73.symm, h72, h72.symm, evF, ↓evZ, implies_true, seval, tf_D4_49]
     refine (c_l1Mutate bs c (p4 + 1) a ha.2 _ (by omega) (RdAt.new.upd h7c)).mono ?_
     rintro _ _ ⟨q1, hq1, hq1', rfl, a1, rfl⟩
     rw [zy7.upd_mid h7c, zy7.upd_comm _ _ _ h7c]
     simp -implicitDefEqProofs only [zy4, Tm.av_agg, Tm.av_width, Tm.av_store, Tm.av_junk, Tm.av_cells, h32, h32.symm, hc3, hc3.symm, hc2, hc2.symm, h7c, h7c.symm, h73, h73.symm, h72, h72.symm, evF, ↓evZ, implies_true, seval, tf_D4_49]
     refine ⟨ext_one (zy7.upd_same _ _ _), ?_⟩
     refine (c_l1Mutate bs c q1 (b) hb0.2 _ (by omega) (RdAt.new.upd h7c)).mono ?_
     rintro _ _ ⟨q2, hq2, hq2', rfl, a2, rfl⟩
     rw [zy7.upd_mid h7c, zy7.upd_comm _ _ _ h7c]
     simp -implicitDefEqProofs only [take_all (Tm.av_cells a1), agg_cells (Tm.av_agg a1), take_all (Tm.av_cells a2), agg_cells (Tm.av_agg a2), Nat.le_refl, zy4, Tm.av_agg, Tm.av_width, Tm.av_store, Tm.av_junk, Tm.av_cells, h32, h32.symm, hc3, hc3.symm, hc2, hc2.symm, h7c, h7c.symm, h73, h73.symm, h72, h72.symm, evF, ↓evZ, implies_true, seval, tf_D4_49]
     exact ⟨hdr _ _ _ _ _ _, a1, a2, rfl⟩
abbrev tf_D4_22 := zi tI_40 (zi zI_40 (zi eI_40 (zi eB_40 (zi eZ_40 (zi underlying40 (zi tI_42 (zi zI_42 (zi fI_42_0 (zi fI_42_1 (zi fI_42_2 (zi fI_42_3 bI_42)))))))))))
theorem c_DrawUnifyTerms (bs : List Bt) (st : zy7) : zq7 prog 22 [.slice (bs.map byteAv)] st (fun r st' => (∃ a b : Tm, r = .tup [a.av, b.av]) ∧ st' = st) := by
 refine zq7.drop (Q := fun r => ∃ a b : Tm, r = .tup [a.av, b.av]) ?_
 refine wF [1000000] 1 func22 ntmps22 rfl rfl ?_
 intro _
 simp -implicitDefEqProofs only [zy4, Tm.av_agg, Tm.av_width, Tm.av_store, Tm.av_junk, Tm.av_cells, evF, ↓evZ, implies_true, seval, tf_D4_22]
 intro b2 h2 b3 h3
 have h32 : b3 ≠ b2 := by rintro rfl; rw [zy7.upd_same] at h3; cases h3
 have hn3 : st b3 = none := by rw [zy7.upd_ne st _ h32] at h3; exact h3
 refine (c_l3Two bs _).mono ?_
 rintro _ _ ⟨⟨a, b, rfl⟩, rfl⟩
 simp -implicitDefEqProofs only [take_all (Tm.av_cells a), agg_cells (Tm.av_agg a), take_all (Tm.av_cells b), agg_cells (Tm.av_agg b), Nat.le_refl, zy4, Tm.av_agg, Tm.av_width, Tm.av_store, Tm.av_junk, Tm.av_cells, h32, h32.symm, evF, ↓evZ, implies_true, seval, tf_D4_22]
 refine ⟨?_, a, b, rfl⟩
 intro x
 by_cases e2 : x = b2 <;> by_cases e3 : x = b3 <;> simp_all [zy7.upd]
theorem tm_same_refl (t : Tm) : t.same t = true := (Tm.same_eq t t).2 rfl
theorem zero_cells : (Value.agg #[Value.int IntKind.i64 0, Value.int IntKind.i64 0, Value.string ⟨#[]⟩, Value.slice none 0 0]).cells.toList.map ofConst = [.int .i64 0, .int .i64 0, .str ⟨#[]⟩, .fslice []] := rfl
abbrev tf_L3_110 := zi tI_3 (zi zI_3 (zi underlying3 (zi tI_42 (zi zI_42 (zi fI_42_0 (zi fI_42_1 (zi fI_42_2 (zi fI_42_3 (zi bI_42 (zi tI_58 (zi zI_58 (zi eI_58 (zi eB_58 (zi eZ_58 underlying58))))))))))))))
theorem c_renumbered_1 (vars : List Int) (n : Int) (st : zy7) : zq7 prog 110 [.int .i64 n, .pptr (.slice (vars.map iv))] st (fun r st' => r = (vr (idxI n vars 0)).av ∧ st' = st) := by
 refine zq7.done ?_
 refine wF [1000000] 2 func110 ntmps110 rfl rfl ?_
 intro _
 simp -implicitDefEqProofs only [zy4, Tm.av_agg, Tm.av_width, Tm.av_store, Tm.av_junk, Tm.av_cells, Nat.le_refl, take_all (Tm.av_cells _), agg_cells (Tm.av_agg _), evF, ↓evZ, implies_true, seval, tf_L3_110]
 intro b hb
 refine (c_IndexInt vars n _).to ?_
 simp -implicitDefEqProofs only [zy4, Tm.av_agg, Tm.av_width, Tm.av_store, Tm.av_junk, Tm.av_cells, Nat.le_refl, take_all (Tm.av_cells _), agg_cells (Tm.av_agg _), evF, ↓evZ, implies_true, seval, tf_L3_110]
 refine (c_variable _ _).to ?_
 simp -implicitDefEqProofs only [zy4, Tm.av_agg, Tm.av_width, Tm.av_store, Tm.av_junk, Tm.av_cells, Nat.le_refl, take_all (Tm.av_cells _), agg_cells (Tm.av_agg _), evF, ↓evZ, implies_true, seval, tf_L3_110]
 exact ⟨Tm.soft _, (Drops.refl _).upd hb⟩
abbrev tf_L3_70 := zi tI_3 (zi zI_3 (zi underlying3 (zi tI_31 (zi zI_31 (zi eI_31 (zi eB_31 (zi eZ_31 (zi underlying31 (zi tI_42 (zi zI_42 (zi fI_42_0 (zi fI_42_1 (zi fI_42_2 (zi fI_42_3 (zi bI_42 (zi tI_58 (zi zI_58 (zi eI_58 (zi eB_58 (zi eZ_58 (zi underlying58 (zi tI_110 (zi zI_110 (zi fI_110_0 (zi fI_110_1 (zi fI_110_2 bI_110))))))))))))))))))))))))))
theorem c_renumbered (l : List Tm) (hln : l.length ≤ 1048576) (hsz : sumL Tm.nodes l ≤ 1099511627776) (hsm : ∀ t ∈ l, t.small = true) (st : zy7) : zq7 prog 70 [.slice (l.map Tm.av)] st (fun r st' => r = .slice ((renumL l).map Tm.av) ∧ st' = st) := by
 refine zq7.done ?_
 refine wF [1000000] 1 func70 ntmps70 rfl rfl ?_
 simp only [fitsL, AV.fits, and_true, List.length_map]
 intro ⟨hl, _⟩
 simp -implicitDefEqProofs only [List.length_map, evF, ↓evZ, implies_true, seval, tf_L3_70]
 refine (c_varsOf l _ hsz).to ?_
 simp -implicitDefEqProofs only [List.length_map, evF, ↓evZ, implies_true, seval, tf_L3_70]
 generalize hv : tmsVars l [] = vars
 have hR : renumL l = l.map fun t => t.mapv fun v => vr (idxI v vars 0) := by rw [← hv]; rfl
 rw [hR]
 refine zq6 (σ := Unit) [1000000] [2, 3, 9, 10] (l) 4 4 (fun i _ => (((l).take i).map (fun t => t.mapv fun v => vr (idxI v vars 0))).map Tm.av) (fun _ _ => True) (fun i _ => [(11, .int .i64 i)]) (fun _ _ => st) (fun i _ _ e he => by simp only [List.mem_map] at he; obtain ⟨t, _, rfl⟩ := he; exact ⟨Tm.av_junk t, Tm.av_width t⟩) (by decide +kernel) ⟨(), 0, trivial, fun h => absurd rfl h, zx7.mk (by simp -implicitDefEqProofs only [accV_nil, accS_nil, List.take_zero, List.map_nil, List.length_map, List.length_map, evF, ↓evZ, implies_true, seval, tf_L3_70])⟩ (fun i x s b hx hlt hlt' hdr hinv hb => ?_) (fun s b hge hinv => ?_)
 case refine_1 =>
  have hw := wrap64 (n := (i : Int) + 1) (by omega) (by omega)
  have hlen' : ((((l).take i).map (fun t => t.mapv fun v => vr (idxI v vars 0))).map Tm.av).length = i := by simp only [List.length_map, List.length_take]; omega
  have htk : ((((l).take i).map (fun t => t.mapv fun v => vr (idxI v vars 0))).map Tm.av) ++ [Tm.av ((fun t => t.mapv fun v => vr (idxI v vars 0)) x)] = (((l).take (i + 1)).map (fun t => t.mapv fun v => vr (idxI v vars 0))).map Tm.av := by rw [List.take_add_one, hx]; simp
  have hat := ev_at (av := Tm.av) eI_31 hx (Tm.av_width x)
  simp -implicitDefEqProofs only [hlt', List.length_map, hat, evF, ↓evZ, implies_true, seval, tf_L3_70]
  refine (c_mapVars (fun v => vr (idxI v vars 0)) _ [.pptr (.slice (vars.map iv))] rfl x _ (hsm x (List.mem_of_getElem? hx)) (fun n _ s => c_renumbered_1 vars n s)).to ?_
  simp -implicitDefEqProofs only [List.length_map, hat, evF, ↓evZ, implies_true, seval, tf_L3_70]
  refine acc_append eI_31 eB_31 eZ_31 rfl rfl (by intro e he; simp only [List.mem_cons, List.not_mem_nil, or_false] at he; subst he; exact ⟨Tm.av_width _, Tm.av_store _⟩) (by intro e he; simp only [List.mem_map] at he; obtain ⟨t, _, rfl⟩ := he; exact Tm.av_width t) hb (by simp only [hlen', List.length_cons, List.length_nil]; omega) (by simp only [hlen', List.length_cons, List.length_nil]; omega) (fun b' hb' => ?_)
  rw [htk] at hb' ⊢
  simp -implicitDefEqProofs only [List.length_map, hat, evF, ↓evZ, implies_true, seval, tf_L3_70]
  exact ⟨(), b', hb', zx7.mk (by simp -implicitDefEqProofs only [hw, List.length_map, hat, evF, ↓evZ, implies_true, seval, tf_L3_70])⟩
 simp -implicitDefEqProofs only [hge, fin_agg, fin_tup, fin_int, fin_bool, fin_str, fin_slice, fin_fslice, fin_pptr, fin_ptr, fin_func, fin_map, fin_undef, fin_accV, tm_fin, List.take_length, List.length_map, evF, ↓evZ, implies_true, seval, tf_L3_70]
 exact ⟨rfl, Drops.refl _⟩
theorem c_renumberedF (t : Tm) (h : t.valid = true) (st : zy7) : zq7 prog 70 [.fslice [t.av]] st (fun r st' => r = .slice [(renum t).av] ∧ st' = st) := by
 have := c_renumbered [t] (by simp) (by have := Tm.valid_nodes h; simp only [sumL]; omega) (by intro x hx; simp only [List.mem_cons, List.not_mem_nil, or_false] at hx; rw [hx]; exact Tm.valid_small h) st
 exact zq7.softArgs (by simp only [softL, AV.soft]; exact this)
abbrev tf_L3_27 := zi tI_4 (zi zI_4 (zi underlying4 (zi tI_31 (zi zI_31 (zi eI_31 (zi eB_31 (zi eZ_31 (zi underlying31 (zi tI_42 (zi zI_42 (zi fI_42_0 (zi fI_42_1 (zi fI_42_2 (zi fI_42_3 bI_42))))))))))))))
theorem c_impl_VariantTerms (a b : Tm) (ha : a.valid = true) (hb : b.valid = true) (st : zy7) : zq7 prog 27 [a.av, b.av] st (fun r st' => r = .bool ((renum a).same (renum b)) ∧ st' = st) := by
 refine wF [1000000] 2 func27 ntmps27 rfl rfl ?_
 intro _
 simp -implicitDefEqProofs only [Tm.av_agg, Tm.av_width, Tm.av_store, Tm.av_junk, Tm.av_cells, Nat.le_refl, take_all (Tm.av_cells _), agg_cells (Tm.av_agg _), evF, ↓evZ, implies_true, seval, tf_L3_27]
 have hva := fun s => c_impl_TermValid a s
 have hvb := fun s => c_impl_TermValid b s
 rw [ha] at hva
 rw [hb] at hvb
 have hat : ∀ t : Tm, aIndexAddr prog 31 (.slice [t.av]) (.int .i64 0) = some (.pptr t.av) := fun t => ev_at (P := prog) (av := Tm.av) (l := [t]) (i := 0) eI_31 rfl (Tm.av_width t)
 refine wX [(0, 1), (1, 0), (2, 1), (3, 1), (4, 0), (5, 1), (6, 1), (7, 1), (8, 1), (12, 1), (13, 1), (9, 0), (10, 1), (11, 1), (14, 0), (15, 1), (16, 1), (17, 0), (18, 1), (19, 1)] [0, 2, 3, 5, 6, 7, 8, 12, 13, 10, 11, 15, 16, 18, 19] none0' mixed rfl ext_none ?_
 simp -implicitDefEqProofs only [Tm.av_agg, Tm.av_width, Tm.av_store, Tm.av_junk, Tm.av_cells, Nat.le_refl, take_all (Tm.av_cells _), agg_cells (Tm.av_agg _), evF, ↓evZ, implies_true, seval, tf_L3_27]
 refine (hva _).to ?_
 simp -implicitDefEqProofs only [Tm.av_agg, Tm.av_width, Tm.av_store, Tm.av_junk, Tm.av_cells, Nat.le_refl, take_all (Tm.av_cells _), agg_cells (Tm.av_agg _), evF, ↓evZ, implies_true, seval, tf_L3_27]
 refine ⟨ext_none, ?_⟩
 refine (hvb _).to ?_
 simp -implicitDefEqProofs only [Tm.av_agg, Tm.av_width, Tm.av_store, Tm.av_junk, Tm.av_cells, Nat.le_refl, take_all (Tm.av_cells _), agg_cells (Tm.av_agg _), evF, ↓evZ, implies_true, seval, tf_L3_27]
 refine ⟨ext_none, ?_⟩
 refine (c_renumberedF a ha _).to ?_
 simp -implicitDefEqProofs only [hat, Tm.av_agg, Tm.av_width, Tm.av_store, Tm.av_junk, Tm.av_cells, Nat.le_refl, take_all (Tm.av_cells _), agg_cells (Tm.av_agg _), evF, ↓evZ, implies_true, seval, tf_L3_27]
 refine ⟨ext_none, ?_⟩
 refine (c_renumberedF b hb _).to ?_
 simp -implicitDefEqProofs only [hat, Tm.av_agg, Tm.av_width, Tm.av_store, Tm.av_junk, Tm.av_cells, Nat.le_refl, take_all (Tm.av_cells _), agg_cells (Tm.av_agg _), evF, ↓evZ, implies_true, seval, tf_L3_27]
 refine ⟨ext_none, ?_⟩
 refine (c_impl_TermSame _ _ _).to ?_
 simp -implicitDefEqProofs only [Tm.av_agg, Tm.av_width, Tm.av_store, Tm.av_junk, Tm.av_cells, Nat.le_refl, take_all (Tm.av_cells _), agg_cells (Tm.av_agg _), evF, ↓evZ, implies_true, seval, tf_L3_27]
 exact ext_none
def valR : Option (List Tm) → AV
 | none => .tup [.slice [], .bool false]
 | some l => .tup [.slice (l.map Tm.av), .bool true]
theorem okX_sum : ∀ {l : List Tm}, (∀ t ∈ l, t.nodes ≤ 120) → sumL Tm.nodes l ≤ 120 * l.length
 | [], _ => by simp [sumL]
 | t :: l, h => by
  have h1 := h t (by simp)
  have h2 := okX_sum (l := l) fun x hx => h x (by simp [hx])
  simp only [sumL, List.length_cons]; omega
abbrev tf_T6_150 := zi tI_3 (zi zI_3 (zi underlying3 (zi tI_4 (zi zI_4 (zi underlying4 (zi tI_31 (zi zI_31 (zi eI_31 (zi eB_31 (zi eZ_31 (zi underlying31 (zi tI_42 (zi zI_42 (zi fI_42_0 (zi fI_42_1 (zi fI_42_2 (zi fI_42_3 (zi bI_42 (zi tI_58 (zi zI_58 (zi eI_58 (zi eB_58 (zi eZ_58 (zi underlying58 (zi tI_85 zI_85)))))))))))))))))))))))))
theorem c_values {N : Nat} {σ : Sub} (hg : IsGood σ) (ho : AllS (OkX N) σ) (vars : List Int) (hv : ∀ v ∈ vars, 0 ≤ v ∧ v < (N : Int)) (hl : vars.length ≤ 1000) (c m : Nat) (q : AV) (st : zy7) (hS : SubAt st c m q σ) :
 zq7 prog 150 [.ptr c 0, .slice (vars.map iv)] st (fun r st' => r = valR (ansR σ vars) ∧ st' = st) := by
 obtain ⟨rk, B, G⟩ := hg.rs
 have hres := fun (t : Tm) (ht : OkX N t) st hS => c_resolve G (ho.imp fun t ht => ht.1.2.1) (ho.imp fun t ht => ht.1.small) c m q t ht.1.2.1 ht.1.small st hS
 refine zq7.done ?_
 refine wF [1000000] 2 func150 ntmps150 rfl rfl ?_
 intro _
 simp -implicitDefEqProofs only [List.length_map, evF, ↓evZ, implies_true, seval, tf_T6_150]
 refine zq6 (σ := Unit) [1000000] [0, 11, 12] vars 4 6 (fun i _ => ((vars.take i).map (rs σ)).map Tm.av) (fun i _ => ((vars.take i).map (rs σ)).all fitT = true) (fun i _ => [(4, .fslice []), (5, .bool false), (13, .int .i64 i)]) (fun _ _ => st) (fun i _ _ e he => by simp only [List.mem_map] at he; obtain ⟨t, _, rfl⟩ := he; exact ⟨Tm.av_junk _, Tm.av_width _⟩) (by decide +kernel) ⟨(), 0, rfl, fun h => absurd rfl h, zx7.mk (by simp -implicitDefEqProofs only [accV_nil, accS_nil, List.take_zero, List.map_nil, List.length_map, evF, ↓evZ, implies_true, seval, tf_T6_150])⟩ (fun i x s b hx hlt hlt' hdr hinv hb => ?_) (fun s b hge hinv => ?_)
 · have hw := wrap64 (n := (i : Int) + 1) (by omega) (by omega)
   have hxm := List.mem_of_getElem? hx
   obtain ⟨hx0, hx1⟩ := hv x hxm
   have hvr : OkX N (vr x) := ⟨okV_vr hx0 hx1, by rw [vr, Tm.nodes_mk]; simp [sumL]⟩
   have hat : aIndexAddr prog 58 (.slice (vars.map iv)) (.int .i64 (i : Int)) = some (.pptr (.int .i64 x)) := ev_at (av := iv) eI_58 hx rfl
   have hlen' : (((vars.take i).map (rs σ)).map Tm.av).length = i := by simp only [List.length_map, List.length_take]; omega
   have hall : ((vars.take (i + 1)).map (rs σ)).all fitT = fitT (rs σ x) := by
    rw [List.take_add_one, hx]
    simp only [Option.toList_some, List.map_append, List.map_cons, List.map_nil, List.all_append, hinv, List.all_cons, List.all_nil, Bool.and_true, Bool.true_and]
   have hr := hres (vr x) hvr _ (hS.acc hb)
   rw [mapv_vr] at hr
   unfold optR at hr
   simp -implicitDefEqProofs only [hlt', zy4, List.length_map, hat, Tm.av_agg, Tm.av_width, Tm.av_store, Tm.av_junk, Tm.av_cells, Nat.le_refl, take_all (Tm.av_cells _), agg_cells (Tm.av_agg _), hw, evF, ↓evZ, implies_true, seval, tf_T6_150]
   refine (c_variable x _).to ?_
   simp -implicitDefEqProofs only [zy4, List.length_map, hat, Tm.av_agg, Tm.av_width, Tm.av_store, Tm.av_junk, Tm.av_cells, Nat.le_refl, take_all (Tm.av_cells _), agg_cells (Tm.av_agg _), hw, evF, ↓evZ, implies_true, seval, tf_T6_150]
   by_cases hf : fitT (rs σ x) = true
   · rw [if_pos (by unfold fitT at hf; simpa using hf)] at hr
     refine hr.to ?_
     simp -implicitDefEqProofs only [zy4, List.length_map, hat, Tm.av_agg, Tm.av_width, Tm.av_store, Tm.av_junk, Tm.av_cells, Nat.le_refl, take_all (Tm.av_cells _), agg_cells (Tm.av_agg _), hw, evF, ↓evZ, implies_true, seval, tf_T6_150]
     refine acc_append eI_31 eB_31 eZ_31 rfl rfl (by intro e he; simp only [List.mem_cons, List.not_mem_nil, or_false] at he; subst he; exact ⟨Tm.av_width _, Tm.av_store _⟩) (tm_widths _) hb (by simp only [hlen', List.length_cons, List.length_nil]; omega) (by simp only [hlen', List.length_cons, List.length_nil]; omega) (fun b' hb' => ?_)
     rw [show (((vars.take i).map (rs σ)).map Tm.av) ++ [(rs σ x).av] = ((vars.take (i + 1)).map (rs σ)).map Tm.av by rw [List.take_add_one, hx]; simp] at hb' ⊢
     simp -implicitDefEqProofs only [zy4, List.length_map, hat, Tm.av_agg, Tm.av_width, Tm.av_store, Tm.av_junk, Tm.av_cells, Nat.le_refl, take_all (Tm.av_cells _), agg_cells (Tm.av_agg _), hw, evF, ↓evZ, implies_true, seval, tf_T6_150]
     exact ⟨(), b', by rw [hall]; exact hf, hb', zx7.mk (by simp -implicitDefEqProofs only [hw, zy4, List.length_map, hat, Tm.av_agg, Tm.av_width, Tm.av_store, Tm.av_junk, Tm.av_cells, Nat.le_refl, take_all (Tm.av_cells _), agg_cells (Tm.av_agg _), hw, evF, ↓evZ, implies_true, seval, tf_T6_150])⟩
   · rw [if_neg (by unfold fitT at hf; simpa using hf)] at hr
     refine hr.to ?_
     simp -implicitDefEqProofs only [zy4, List.length_map, hat, Tm.av_agg, Tm.av_width, Tm.av_store, Tm.av_junk, Tm.av_cells, Nat.le_refl, take_all (Tm.av_cells _), agg_cells (Tm.av_agg _), hw, evF, ↓evZ, implies_true, seval, tf_T6_150]
     have hans : ansR σ vars = none := by
      unfold ansR
      rw [if_neg]
      rintro ⟨h1, _⟩
      exact hf (List.all_eq_true.1 h1 _ (List.mem_map.2 ⟨x, hxm, rfl⟩))
     rw [hans]
     exact ⟨rfl, Drops.accS (Drops.refl _) hb⟩
 · rw [List.take_length] at hinv
   have hok : ∀ t ∈ vars.map (rs σ), OkX N t := fun t ht => by
    obtain ⟨v, hvm, rfl⟩ := List.mem_map.1 ht
    have hf := List.all_eq_true.1 hinv _ ht
    unfold fitT at hf
    simp only [Bool.and_eq_true, decide_eq_true_eq] at hf
    exact ⟨G.okV ho.okV v (hv v hvm).1 (hv v hvm).2, hf.2⟩
   have hsz : sumL Tm.nodes (vars.map (rs σ)) ≤ 1099511627776 := by
    have := okX_sum (l := vars.map (rs σ)) fun t ht => (hok t ht).2
    rw [List.length_map] at this
    omega
   simp -implicitDefEqProofs only [hge, fin_agg, fin_tup, fin_int, fin_bool, fin_str, fin_slice, fin_fslice, fin_pptr, fin_ptr, fin_func, fin_map, fin_undef, fin_accV, tm_fin, List.take_length, List.length_map, evF, ↓evZ, implies_true, seval, tf_T6_150]
   refine (c_varsOf (vars.map (rs σ)) _ hsz).to ?_
   simp -implicitDefEqProofs only [List.length_map, List.length_map, evF, ↓evZ, implies_true, seval, tf_T6_150]
   refine zq4 (fun h => ?_) (fun h => ?_)
   · simp -implicitDefEqProofs only [List.length_map, evF, ↓evZ, implies_true, seval, tf_T6_150]
     have h' : ¬ (tmsVars (vars.map (rs σ)) []).length ≤ 26 := by simp at h; omega
     unfold ansR
     rw [if_neg (fun hh => h' hh.2)]
     exact ⟨rfl, Drops.refl _⟩
   · simp -implicitDefEqProofs only [List.length_map, evF, ↓evZ, implies_true, seval, tf_T6_150]
     have h' : (tmsVars (vars.map (rs σ)) []).length ≤ 26 := by simp at h; omega
     refine (c_renumbered (vars.map (rs σ)) (by rw [List.length_map]; omega) hsz (fun t ht => (hok t ht).1.small) _).to ?_
     simp -implicitDefEqProofs only [List.length_map, evF, ↓evZ, implies_true, seval, tf_T6_150]
     unfold ansR
     rw [if_pos ⟨hinv, h'⟩]
     exact ⟨rfl, Drops.refl _⟩
abbrev tf_T6_95 := zi tI_3 (zi zI_3 (zi underlying3 (zi tI_4 (zi zI_4 (zi underlying4 (zi tI_26 (zi zI_26 (zi eI_26 (zi eB_26 (zi eZ_26 (zi underlying26 (zi tI_29 (zi zI_29 (zi eI_29 (zi eB_29 (zi eZ_29 (zi underlying29 (zi tI_31 (zi zI_31 (zi eI_31 (zi eB_31 (zi eZ_31 (zi underlying31 (zi tI_120 (zi zI_120 (zi tI_167 (zi zI_167 (zi tI_171 (zi zI_171 (zi fI_171_0 (zi fI_171_1 (zi fI_171_2 (zi fI_171_3 (zi fI_171_4 (zi fI_171_5 (zi fI_171_6 (zi fI_171_7 (zi fI_171_8 (zi fI_171_9 (zi fI_171_10 (zi fI_171_11 bI_171)))))))))))))))))))))))))))))))))))))))))
theorem c_newSearch (p : List Cl) (q : List Tm) (fuel : Int) (idx : Bool) (hq : q.length ≤ 1048576) (st : zy7) :
 zq7 prog 95 [.slice (p.map clAv), .slice (q.map Tm.av), .int .i64 fuel, .bool idx] st (fun r st' => ∃ S c m, r = .ptr S 0 ∧ SrA st st' S c m (.fslice []) (.fslice []) (.fslice []) p q idx fuel 0 0 [] (iStart q)) := by
 have hput := fun st => c_put q 0 (-1) [] hq st
 simp only [List.append_nil] at hput
 rw [glAv] at hput
 refine wF [1000000, 16] 4 func95 ntmps95 rfl rfl ?_
 intro _
 simp -implicitDefEqProofs only [zy4, List.length_map, evF, ↓evZ, implies_true, seval, tf_T6_95]
 refine (c_newStore st).mono ?_
 rintro _ s1 ⟨c, m, rfl, hS, hQ, hc, hm⟩
 simp -implicitDefEqProofs only [zy4, List.length_map, evF, ↓evZ, implies_true, seval, tf_T6_95]
 intro S hS0
 have hSc : S ≠ c := by rintro rfl; rw [hS.sub.cells] at hS0; cases hS0
 have hSm : S ≠ m := by rintro rfl; rw [hS.sub.map] at hS0; cases hS0
 refine (hput _).to ?_
 obtain ⟨l1, l2, l3, l4, l5, l6⟩ := glAv_facts (q.map (fun t => (⟨t, 0, -1⟩ : IG)))
 simp -implicitDefEqProofs only [zy4, List.length_map, zy7.upd_same, l1, l2, l3, l4, l5, evF, ↓evZ, implies_true, seval, tf_T6_95]
 refine ⟨S, c, m, rfl, ?_⟩
 have hcm : c ≠ m := by rintro rfl; have := hS.sub.cells; rw [hS.sub.map] at this; cases this
 have hS0' : st S = none := by
  cases hh : st S with
  | none => rfl
  | some o => have := hQ.frame S o hh hSc hSm (by simp [tbk]); rw [hS0] at this; cases this
 refine ⟨zy7.upd_same _ _ _, hS.upd hSc hSm (by simp [tbk]), .inl ⟨rfl, rfl⟩, .inl ⟨rfl, rfl⟩, rfl, by simp, ?_, ?_, ?_⟩
 · simp [srO, tbk, ownB, hSc, hSm, hcm]
 · intro b hb
   rcases mem_srO.1 hb with rfl | rfl | rfl | hb | hb | hb
   · exact hS0'
   · exact hc
   · exact hm
   · simp [tbk] at hb
   · simp [ownB] at hb
   · simp [ownB] at hb
 · intro b o hb
   have e1 : b ≠ S := by rintro rfl; rw [hS0'] at hb; cases hb
   rw [zy7.upd_ne _ _ e1]
   exact hQ.frame b o hb (by rintro rfl; rw [hc] at hb; cases hb) (by rintro rfl; rw [hm] at hb; cases hb) (by simp [tbk])
abbrev tf_T6_94 := zi tI_3 (zi zI_3 (zi underlying3 (zi tI_4 (zi zI_4 (zi underlying4 (zi tI_29 (zi zI_29 (zi eI_29 (zi eB_29 (zi eZ_29 (zi underlying29 (zi tI_31 (zi zI_31 (zi eI_31 (zi eB_31 (zi eZ_31 underlying31))))))))))))))))
theorem c_canSolve (p : List Cl) (q : List Tm) (most fuel : Int) (st : zy7) :
 zq7 prog 94 [.slice (p.map clAv), .slice (q.map Tm.av), .int .i64 most, .int .i64 fuel] st (fun r st' => r = .bool (progOk p && (queryOk q && (decide (0 ≤ most) && (decide (most ≤ 20) && (decide (0 ≤ fuel) && decide (fuel ≤ 300)))))) ∧ st' = st) := by
 have h1 := fun st => c_impl_ProgramValid p st
 have h2 := fun st => c_impl_QueryValid q st
 have h3 := fun n lo hi st => c_within n lo hi st
 refine wF [] 4 func94 ntmps94 rfl rfl ?_
 intro _
 simp -implicitDefEqProofs only [List.length_map, evF, ↓evZ, implies_true, seval, tf_T6_94]
 refine (h1 _).to ?_
 simp -implicitDefEqProofs only [List.length_map, evF, ↓evZ, implies_true, seval, tf_T6_94]
 refine zx4 (fun h => ?_) (fun h => ?_)
 · simp -implicitDefEqProofs only [h, evF, ↓evZ, implies_true, seval, tf_T6_94]
   refine (h2 _).to ?_
   simp -implicitDefEqProofs only [h, evF, ↓evZ, implies_true, seval, tf_T6_94]
   refine zx4 (fun h5 => ?_) (fun h5 => ?_)
   · simp -implicitDefEqProofs only [h5, evF, ↓evZ, implies_true, seval, tf_T6_94]
     refine (h3 _ _ _ _).to ?_
     simp -implicitDefEqProofs only [h5, evF, ↓evZ, implies_true, seval, tf_T6_94]
     refine zx4 (fun h6 => ?_) (fun h6 => ?_)
     · simp -implicitDefEqProofs only [h6, evF, ↓evZ, implies_true, seval, tf_T6_94]
       refine (h3 _ _ _ _).to ?_
       simp -implicitDefEqProofs only [h6, evF, ↓evZ, implies_true, seval, tf_T6_94]
       rw [← Bool.and_assoc (decide (0 ≤ most)), h6, Bool.true_and]
     · simp -implicitDefEqProofs only [h6, evF, ↓evZ, implies_true, seval, tf_T6_94]
       rw [← Bool.and_assoc (decide (0 ≤ most)), h6]
       rfl
   · simp -implicitDefEqProofs only [h5, evF, ↓evZ, implies_true, seval, tf_T6_94]
     rw [Bool.false_and]
 · simp -implicitDefEqProofs only [h, evF, ↓evZ, implies_true, seval, tf_T6_94]
   rw [Bool.false_and]
theorem c_solve_1 (st : zy7) : zq7 prog 97 [] st (fun r st' => r = .tup [] ∧ st' = st) := by
 refine wF [1000000] 0 func97 ntmps97 rfl rfl ?_
 intro _
 simp -implicitDefEqProofs only [evF, ↓evZ, implies_true, seval, ]
structure RunX where
 st : zy7
 qt : AV
 qc : AV
 qn : AV
 mx : Int
 nd : List AV
 s : RS
 i : IS
 out : List (List Tm)
 b : Nat
 u : Nat
 B : Nat
 M : Nat
 e : Int
structure RunG (st0 : zy7) (S c m : Nat) (p : List Cl) (q : List Tm) (idx : Bool) (cnd : Tm → List Nat → List Nat) (vars : List Int) (most fuel : Nat) (T : List (List Tm) × Int) (x : RunX) : Prop where
 a : SrA st0 x.st S c m x.qt x.qc x.qn p q idx fuel x.u x.mx x.nd x.i
 r : RI p x.B x.M x.u x.s x.i
 t : T = (x.out ++ (iRun p cnd vars (most - x.out.length) (fuel - x.u) x.i).1, (iRun p cnd vars (most - x.out.length) (fuel - x.u) x.i).2)
 u : x.u ≤ fuel
 B : x.B ≤ 26 + 26 * x.u
 M : x.M ≤ 26 + 520 * x.u
structure RunV (st0 : zy7) (S c m : Nat) (p : List Cl) (q : List Tm) (idx : Bool) (cnd : Tm → List Nat → List Nat) (vars : List Int) (most fuel : Nat) (T : List (List Tm) × Int) (x : RunX) : Prop where
 d : Drops x.st st0
 b : x.out.map ansAv ≠ [] → x.st x.b = none
 l : x.out.length ≤ most
 g : x.e = -1 → RunG st0 S c m p q idx cnd vars most fuel T x
 f : x.e ≠ -1 → T = (x.out, x.e)
abbrev tf_T7_96 := zi tI_3 (zi zI_3 (zi underlying3 (zi tI_4 (zi zI_4 (zi underlying4 (zi tI_26 (zi zI_26 (zi eI_26 (zi eB_26 (zi eZ_26 (zi underlying26 (zi tI_31 (zi zI_31 (zi eI_31 (zi eB_31 (zi eZ_31 (zi underlying31 (zi tI_51 (zi zI_51 (zi fI_51_0 (zi bI_51 (zi tI_58 (zi zI_58 (zi eI_58 (zi eB_58 (zi eZ_58 (zi underlying58 (zi tI_85 (zi zI_85 (zi tI_120 (zi zI_120 (zi tI_167 (zi zI_167 (zi tI_171 (zi zI_171 (zi fI_171_0 (zi fI_171_1 (zi fI_171_2 (zi fI_171_3 (zi fI_171_4 (zi fI_171_5 (zi fI_171_6 (zi fI_171_7 (zi fI_171_8 (zi fI_171_9 (zi fI_171_10 (zi fI_171_11 bI_171)))))))))))))))))))))))))))))))))))))))))))))))
set_option maxHeartbeats 2000000 in
theorem c_run {p : List Cl} (hp : ∀ c ∈ p, ClX c ∧ c.2.length ≤ 6) (hpl : p.length ≤ 20) {cnd : Tm → List Nat → List Nat} (hc : ∀ (ρ : Int → Int) (t : Tm) (l : List Nat), cnd (ren ρ t) l = cnd t l) (hd : ∀ t l, (∀ i ∈ cnd t l, i ∈ l) ∧ (cnd t l).length ≤ l.length) {idx : Bool} (hcnd : CndOk p idx cnd) (hidx : idx = false)
 {q : List Tm} (hq : ∀ t ∈ q, OkX 26 t ∧ t.k = 3) (h6 : q.length ≤ 6) {most fuel : Nat} (hm : most ≤ 20) (hf : fuel ≤ 300) {st0 st : zy7} {S c m : Nat} (h : SrA st0 st S c m (.fslice []) (.fslice []) (.fslice []) p q idx fuel 0 0 [] (iStart q)) :
 zq7 prog 96 [.ptr S 0, .int .i64 (most : Int), .func 97 []] st (fun r st' => ∃ b s, r = .tup [accV 1 b ((iRun p cnd (tmsVars q []) most fuel (iStart q)).1.map ansAv), .int .i64 (iRun p cnd (tmsVars q []) most fuel (iStart q)).2] ∧ st' = accS s b ((iRun p cnd (tmsVars q []) most fuel (iStart q)).1.map ansAv) ∧ ((iRun p cnd (tmsVars q []) most fuel (iStart q)).1.map ansAv ≠ [] → s b = none) ∧ Drops s st0) := by
 have hnd : sumL Tm.nodes q ≤ 1099511627776 := by
  have := nodes_120 q fun t ht => (hq t ht).1.2
  omega
 have hva := fun st => c_varsOf q st hnd
 have hv : ∀ v ∈ tmsVars q [], 0 ≤ v ∧ v < 26 := fun v hv => by
  rcases (tmsVars_mem q [] fun t ht => (hq t ht).1.1.2.1).1 hv with h | ⟨t, ht, h⟩
  · cases h
  · exact (hq t ht).1.1.2.2 v h
 have hvl : (tmsVars q []).length ≤ 1000 := by
  have h1 := tmsVars_len q []
  have h2 := nodes_120 q fun t ht => (hq t ht).1.2
  simp only [List.length_nil] at h1
  omega
 have hstart := RI.start (p := p) hq h6
 generalize hT : iRun p cnd (tmsVars q []) most fuel (iStart q) = T
 generalize tmsVars q [] = vars at *
 have hI0 : RunV st0 S c m p q idx cnd vars most fuel T ⟨st, .fslice [], .fslice [], .fslice [], 0, [], rStart q, iStart q, [], 0, 0, 26, 26, -1⟩ :=
  ⟨h.drops, by simp, Nat.zero_le _, fun _ => ⟨h, hstart, by rw [← hT]; rfl, Nat.zero_le _, Nat.le_refl _, Nat.le_refl _⟩, fun h => absurd rfl h⟩
 have hcell0 := h.cell
 simp only [srC] at hcell0
 obtain ⟨l1, l2, l3, l4, l5, l6⟩ := glAv_facts (iStart q).goals
 refine wF [1000000] 3 func96 ntmps96 rfl rfl ?_
 intro _
 simp -implicitDefEqProofs only [zy4, List.length_map, hcell0, l1, l2, l3, l4, l5, evF, ↓evZ, implies_true, seval, tf_T7_96]
 refine (hva _).to ?_
 simp -implicitDefEqProofs only [zy4, List.length_map, hcell0, l1, l2, l3, l4, l5, evF, ↓evZ, implies_true, seval, tf_T7_96]
 clear hcell0 l1 l2 l3 l4 l5 l6
 have hne : ∀ l : List IG, aBinT prog .neq 167 (glAv l) .nilptr = some (.bool (!l.isEmpty)) := fun l => by
  have h : prog.underlying 167 = some (.pointer 199) := by kernel_rfl
  cases l with
  | nil => rw [glAv]; simp only [aBinT, h]; rfl
  | cons g l => obtain ⟨⟨k, n, s, ts⟩, cut, up⟩ := g; rw [glAv_cons]; simp only [aBinT, h]; rfl
 refine zw5 (σ := RunX) [1000000] [0, 1, 2, 8] (fun x => RunV st0 S c m p q idx cnd vars most fuel T x)
  (fun x => [(6, .fslice []), (7, .int .i64 0), (9, accV 1 x.b (x.out.map ansAv)), (10, .int .i64 x.e)])
  (fun x => accS x.st x.b (x.out.map ansAv))
  (fun x => (most - x.out.length) + (fuel - x.u) + (if x.e = -1 then 1 else 0)) (by decide +kernel) ⟨_, hI0, zx7.mk (by simp -implicitDefEqProofs only [accV_nil, accS_nil, List.map_nil, zy4, List.length_map, accV_junk, accV_store, accV_agg, accV_cells, evF, ↓evZ, implies_true, seval, tf_T7_96])⟩ ?_
 clear hI0 h hT hstart
 rintro ⟨st, qt, qc, qn, mx, nd, s, i, out, b, u, B, M, e⟩ ⟨hdr, hb, hlen, hgo, hfin⟩
 simp only at hdr hb hlen hgo hfin
 simp only
 simp -implicitDefEqProofs only [zy4, List.length_map, accV_junk, accV_store, accV_agg, accV_cells, evF, ↓evZ, implies_true, seval, tf_T7_96]
 refine zq4 (fun h => ?_) (fun h => ?_)
 case refine_2 =>
  have h' : e ≠ -1 := by simpa using h
  have hTe := hfin h'
  subst hTe
  simp -implicitDefEqProofs only [zy4, List.length_map, accV_junk, accV_store, accV_agg, accV_cells, evF, ↓evZ, implies_true, seval, tf_T7_96]
  exact ⟨b, st, rfl, rfl, hb, hdr⟩
 obtain rfl : e = -1 := by simpa using h
 obtain ⟨ha, hR, ht, hu, hBB, hMM⟩ := hgo rfl
 simp only at ha hR ht hu hBB hMM
 have hb0 : out.map ansAv ≠ [] → st0 b = none := fun h => (hdr b).1 (hb h)
 have hA := ha.acc hb
 have hlo : (out.map ansAv).length = out.length := List.length_map _
 have hun : prog.underlying 26 = some (.slice 51) := by kernel_rfl
 have hlenA := accV_len (w := 1) (b := b) (l := out.map ansAv) hun
 rw [hlo] at hlenA
 have hwid : ∀ l : List (List Tm), ∀ e ∈ l.map ansAv, e.width = 1 := fun l e he => by simp only [List.mem_map] at he; obtain ⟨t, _, rfl⟩ := he; rfl
 have hcell := hA.cell
 simp only [srC] at hcell
 obtain ⟨l1, l2, l3, l4, l5, l6⟩ := glAv_facts i.goals
 have hneg := hne i.goals
 simp -implicitDefEqProofs only [zy4, List.length_map, hcell, l1, l2, l3, l4, l5, hlenA, hneg, accV_junk, accV_store, accV_agg, accV_cells, evF, ↓evZ, implies_true, seval, tf_T7_96]
 refine (c_solve_1 _).to ?_
 simp -implicitDefEqProofs only [zy4, List.length_map, hcell, l1, l2, l3, l4, l5, hlenA, hneg, accV_junk, accV_store, accV_agg, accV_cells, evF, ↓evZ, implies_true, seval, tf_T7_96]
 cases hg : i.goals with
 | cons g rest =>
  rw [hg] at hneg
  simp only [List.isEmpty_cons, Bool.not_false] at hneg
  refine zq4 (fun h2 => ?_) (fun h2 => absurd h2 (by first | rw [hg]; simp | simp))
  simp -implicitDefEqProofs only [zy4, List.length_map, hcell, hg, l1, l2, l3, l4, l5, hlenA, hneg, accV_junk, accV_store, accV_agg, accV_cells, evF, ↓evZ, implies_true, seval, tf_T7_96]
  rw [iRun_cons hg] at ht
  have hstep := c_step hp hpl hc hd hcnd hidx (B := B) (M := M) (k := u) (by omega) (by omega) (by omega) hA hR hg (by omega) (by omega)
  have hRs := hR.step hp hpl hc hd (by omega) hg
  have hse := iStep_stop (p := p) (cnd := cnd) (i := i) (g := g) (rest := rest)
  refine hstep.mono ?_
  clear hstep
  rintro r s2 hr
  split at hr
  · rename_i hfu
    obtain ⟨rfl, hA2⟩ := hr
    obtain ⟨s3, rfl, hb3, hA3⟩ := hA2.unacc hb0
    rw [if_pos (by omega)] at ht
    simp -implicitDefEqProofs only [zy4, List.length_map, hcell, hg, l1, l2, l3, l4, l5, hlenA, hneg, accV_junk, accV_store, accV_agg, accV_cells, evF, ↓evZ, implies_true, seval, tf_T7_96]
    exact ⟨⟨s3, qt, qc, qn, mx, nd, s, i, out, b, u, B, M, 2⟩, by simp, ⟨hA3.drops, hb3, hlen, fun h => absurd h (by simp), fun _ => by rw [ht]; simp⟩, zx7.mk (by simp -implicitDefEqProofs only [zy4, List.length_map, hcell, hg, l1, l2, l3, l4, l5, hlenA, hneg, accV_junk, accV_store, accV_agg, accV_cells, evF, ↓evZ, implies_true, seval, tf_T7_96])⟩
  · rename_i hfu
    have hfu' : u < fuel := by omega
    rw [if_neg (by omega)] at ht
    cases hS : iStep p cnd i g rest with
    | stop e =>
     rw [hS] at hr ht hse
     simp only [StopE] at hse
     simp only at ht
     obtain ⟨rfl, qt2, qc2, qn2, mx2, nd2, i2, hA2⟩ := hr
     obtain ⟨s3, rfl, hb3, hA3⟩ := hA2.unacc hb0
     simp -implicitDefEqProofs only [zy4, List.length_map, hcell, hg, l1, l2, l3, l4, l5, hlenA, hneg, accV_junk, accV_store, accV_agg, accV_cells, evF, ↓evZ, implies_true, seval, tf_T7_96]
     exact ⟨⟨s3, qt, qc, qn, mx, nd, s, i, out, b, u, B, M, e⟩, by simp [hse], ⟨hA3.drops, hb3, hlen, fun h => absurd h hse, fun _ => by rw [ht]; simp⟩, zx7.mk (by simp -implicitDefEqProofs only [zy4, List.length_map, hcell, hg, l1, l2, l3, l4, l5, hlenA, hneg, accV_junk, accV_store, accV_agg, accV_cells, evF, ↓evZ, implies_true, seval, tf_T7_96])⟩
    | go i' =>
     rw [hS] at hr ht hRs
     simp only at ht hRs
     obtain ⟨s', hR'⟩ := hRs
     obtain ⟨rfl, qt2, qc2, qn2, mx2, nd2, hA2⟩ := hr
     obtain ⟨s3, rfl, hb3, hA3⟩ := hA2.unacc hb0
     simp -implicitDefEqProofs only [zy4, List.length_map, hcell, hg, l1, l2, l3, l4, l5, hlenA, hneg, accV_junk, accV_store, accV_agg, accV_cells, evF, ↓evZ, implies_true, seval, tf_T7_96]
     exact ⟨⟨s3, qt2, qc2, qn2, mx2, nd2, s', i', out, b, u + 1, B + 26, M + 520, -1⟩, by simp; omega, ⟨hA3.drops, hb3, hlen, fun _ => ⟨hA3, hR', by rw [ht, Nat.sub_sub], by simp only; omega, by simp only; omega, by simp only; omega⟩, fun h => absurd rfl h⟩, zx7.mk (by simp -implicitDefEqProofs only [zy4, List.length_map, hcell, hg, l1, l2, l3, l4, l5, hlenA, hneg, accV_junk, accV_store, accV_agg, accV_cells, evF, ↓evZ, implies_true, seval, tf_T7_96])⟩
    | fail i' =>
     rw [hS] at hr ht hRs
     simp only [StepI] at ht hRs hr
     obtain ⟨_, _, _, hRb⟩ := hRs
     cases hbk : iBack p i'.chs.length i' with
     | none =>
      rw [hbk] at hr ht
      simp only at ht
      obtain ⟨rfl, qt2, qc2, qn2, mx2, nd2, i2, hA2⟩ := hr
      obtain ⟨s3, rfl, hb3, hA3⟩ := hA2.unacc hb0
      simp -implicitDefEqProofs only [zy4, List.length_map, hcell, hg, l1, l2, l3, l4, l5, hlenA, hneg, accV_junk, accV_store, accV_agg, accV_cells, evF, ↓evZ, implies_true, seval, tf_T7_96]
      exact ⟨⟨s3, qt, qc, qn, mx, nd, s, i, out, b, u, B, M, 0⟩, by simp, ⟨hA3.drops, hb3, hlen, fun h => absurd h (by simp), fun _ => by rw [ht]; simp⟩, zx7.mk (by simp -implicitDefEqProofs only [zy4, List.length_map, hcell, hg, l1, l2, l3, l4, l5, hlenA, hneg, accV_junk, accV_store, accV_agg, accV_cells, evF, ↓evZ, implies_true, seval, tf_T7_96])⟩
     | some i2 =>
      rw [hbk] at hr ht
      simp only at ht
      obtain ⟨s', hR'⟩ := hRb i2 hbk
      obtain ⟨rfl, qt2, qc2, qn2, mx2, nd2, hA2⟩ := hr
      obtain ⟨s3, rfl, hb3, hA3⟩ := hA2.unacc hb0
      simp -implicitDefEqProofs only [zy4, List.length_map, hcell, hg, l1, l2, l3, l4, l5, hlenA, hneg, accV_junk, accV_store, accV_agg, accV_cells, evF, ↓evZ, implies_true, seval, tf_T7_96]
      exact ⟨⟨s3, qt2, qc2, qn2, mx2, nd2, s', i2, out, b, u + 1, B + 26, M + 520, -1⟩, by simp; omega, ⟨hA3.drops, hb3, hlen, fun _ => ⟨hA3, hR', by rw [ht, Nat.sub_sub], by simp only; omega, by simp only; omega, by simp only; omega⟩, fun h => absurd rfl h⟩, zx7.mk (by simp -implicitDefEqProofs only [zy4, List.length_map, hcell, hg, l1, l2, l3, l4, l5, hlenA, hneg, accV_junk, accV_store, accV_agg, accV_cells, evF, ↓evZ, implies_true, seval, tf_T7_96])⟩
 | nil =>
  rw [hg] at hneg
  simp only [List.isEmpty_nil, Bool.not_true] at hneg
  refine zq4 (fun h2 => absurd h2 (by first | rw [hg]; simp | simp)) (fun h2 => ?_)
  simp -implicitDefEqProofs only [zy4, List.length_map, hcell, hg, l1, l2, l3, l4, l5, hlenA, hneg, accV_junk, accV_store, accV_agg, accV_cells, evF, ↓evZ, implies_true, seval, tf_T7_96]
  rw [iRun_nil hg] at ht
  refine zq4 (fun h2 => ?_) (fun h2 => ?_)
  · have h' : out.length = most := by simp at h2; omega
    rw [if_pos (by omega)] at ht
    simp -implicitDefEqProofs only [zy4, List.length_map, hcell, hg, l1, l2, l3, l4, l5, hlenA, hneg, accV_junk, accV_store, accV_agg, accV_cells, evF, ↓evZ, implies_true, seval, tf_T7_96]
    have hTe : T = (out, 1) := by rw [ht]; simp
    subst hTe
    exact ⟨b, st, rfl, rfl, hb, hdr⟩
  have h' : out.length < most := by simp at h2; omega
  rw [if_neg (by omega)] at ht
  simp -implicitDefEqProofs only [zy4, List.length_map, hcell, hg, l1, l2, l3, l4, l5, hlenA, hneg, accV_junk, accV_store, accV_agg, accV_cells, evF, ↓evZ, implies_true, seval, tf_T7_96]
  obtain ⟨hgd, ho, _, _⟩ := hR.r.facts
  have hfr : 26 ≤ i.fresh := by
   obtain ⟨ρ, S', _⟩ := hR.r
   have h1 := S'.rng 25 (by omega) (by have := S'.h26; omega)
   rw [S'.idn 25 (by omega) (by omega)] at h1
   omega
  refine (c_values (N := i.fresh) hgd ho vars (fun v h => ⟨(hv v h).1, by have := (hv v h).2; omega⟩) hvl c m qt _ hA.sto.sub).to ?_
  cases hans : ansR i.σ vars with
  | none =>
   rw [hans] at ht
   simp only [valR]
   simp only at ht
   simp -implicitDefEqProofs only [zy4, List.length_map, hcell, hg, l1, l2, l3, l4, l5, hlenA, hneg, accV_junk, accV_store, accV_agg, accV_cells, evF, ↓evZ, implies_true, seval, tf_T7_96]
   have hTe : T = (out, 3) := by rw [ht]; simp
   subst hTe
   exact ⟨b, st, rfl, rfl, hb, hdr⟩
  | some a =>
   rw [hans] at ht
   simp only [valR]
   simp only at ht
   simp -implicitDefEqProofs only [zy4, List.length_map, hcell, hg, l1, l2, l3, l4, l5, hlenA, hneg, accV_junk, accV_store, accV_agg, accV_cells, evF, ↓evZ, implies_true, seval, tf_T7_96]
   refine acc_append (P := prog) (b := b) (l := out.map ansAv) (xs := [ansAv a]) eI_26 eB_26 eZ_26 rfl rfl (by intro e he; simp only [List.mem_cons, List.not_mem_nil, or_false] at he; subst he; exact ⟨rfl, rfl⟩) (hwid out) hb (by simp only [List.length_cons, List.length_nil, hlo]; omega) (by simp only [List.length_cons, List.length_nil, hlo]; omega) (fun b' hb' => ?_)
   rw [show (out.map ansAv) ++ [ansAv a] = (out ++ [a]).map ansAv by simp] at hb' ⊢
   have hA' := ha.acc hb'
   have hb0' : (out ++ [a]).map ansAv ≠ [] → st0 b' = none := fun h => (hdr b').1 (hb' h)
   have hcell' := hA'.cell
   simp only [srC] at hcell'
   simp -implicitDefEqProofs only [zy4, List.length_map, hcell', hg, l1, l2, l3, l4, l5, hlenA, hneg, accV_junk, accV_store, accV_agg, accV_cells, evF, ↓evZ, implies_true, seval, tf_T7_96]
   have hbk := c_back hp (M := M) (by omega) _ qt qc qn mx nd i s.chs (st0 := accS st0 b' ((out ++ [a]).map ansAv)) (S := S) (c := c) (m := m) (q := q) (idx := idx) (fuel := fuel) (used := u) (T := iBack p i.chs.length i) ⟨hA', hR.cr, hR.x, rfl, by have := hR.chl; have := hR.n; constructor <;> omega⟩
   refine hbk.mono ?_
   rintro r s2 hr
   have hln : (out ++ [a]).length = out.length + 1 := by simp
   cases hbk : iBack p i.chs.length i with
   | none =>
    rw [hbk] at hr ht
    simp only at ht
    obtain ⟨rfl, qt2, qc2, qn2, mx2, nd2, i2, hA2⟩ := hr
    obtain ⟨s3, rfl, hb3, hA3⟩ := hA2.unacc hb0'
    simp -implicitDefEqProofs only [zy4, List.length_map, hcell', hg, l1, l2, l3, l4, l5, hlenA, hneg, accV_junk, accV_store, accV_agg, accV_cells, evF, ↓evZ, implies_true, seval, tf_T7_96]
    exact ⟨⟨s3, qt, qc, qn, mx, nd, s, i, out ++ [a], b', u, B, M, 0⟩, by simp only [hln]; simp; omega, ⟨hA3.drops, hb3, by simp only [hln]; omega, fun h => absurd h (by simp), fun _ => by rw [ht]⟩, zx7.mk (by simp -implicitDefEqProofs only [zy4, List.length_map, hcell', hg, l1, l2, l3, l4, l5, hlenA, hneg, accV_junk, accV_store, accV_agg, accV_cells, evF, ↓evZ, implies_true, seval, tf_T7_96])⟩
   | some i2 =>
    rw [hbk] at hr ht
    simp only at ht
    obtain ⟨s', hR'⟩ := hR.back hp (by omega) hbk
    obtain ⟨rfl, qt2, qc2, qn2, mx2, nd2, hA2⟩ := hr
    obtain ⟨s3, rfl, hb3, hA3⟩ := hA2.unacc hb0'
    simp -implicitDefEqProofs only [zy4, List.length_map, hcell', hg, l1, l2, l3, l4, l5, hlenA, hneg, accV_junk, accV_store, accV_agg, accV_cells, evF, ↓evZ, implies_true, seval, tf_T7_96]
    exact ⟨⟨s3, qt2, qc2, qn2, mx2, nd2, s', i2, out ++ [a], b', u, B, M, -1⟩, by simp [hln]; omega, ⟨hA3.drops, hb3, by simp only [hln]; omega, fun _ => ⟨hA3, hR', by rw [ht]; simp only [hln, List.append_assoc, List.cons_append, List.nil_append, Nat.sub_sub], hu, hBB, hMM⟩, fun h => absurd rfl h⟩, zx7.mk (by simp -implicitDefEqProofs only [zy4, List.length_map, hcell', hg, l1, l2, l3, l4, l5, hlenA, hneg, accV_junk, accV_store, accV_agg, accV_cells, evF, ↓evZ, implies_true, seval, tf_T7_96])⟩
theorem MadeT.ofMadeI {st st' : zy7} {a o : AV} {k : IntKind} {n : Int} (h : Made st a o st') : MadeT st [a, .int k n] (.tup [o, .int k n]) st' := by
 obtain ⟨bs, h1, h2, h3, h4⟩ := h
 exact ⟨_, bs, rfl, h1, h2, ownL_2.2 ⟨o, .int k n, bs, [], rfl, by simp, h3, ⟨rfl, rfl⟩⟩, h4⟩
theorem MadeT.toMadeI {st st' : zy7} {a r : AV} {k : IntKind} {n : Int} (h : MadeT st [a, .int k n] r st') : ∃ o, r = .tup [o, .int k n] ∧ Made st a o st' := by
 obtain ⟨os, bs, hr, h1, h2, h3, h4⟩ := h
 obtain ⟨o1, o2, b1, b2, rfl, rfl, h5, h6⟩ := ownL_2.1 h3
 simp only [Own] at h6
 obtain ⟨rfl, rfl⟩ := h6
 rw [List.append_nil] at *
 exact ⟨o1, hr, b1, h1, h2, h5, h4⟩
structure Fill (st : zy7) (L : List AV) (b i : Nat) (os : List AV) (bs : List Nat) (s : zy7) : Prop where
 len : os.length = i
 own : OwnL s (L.take i) os bs
 nd : bs.Nodup
 new : ∀ q ∈ bs, st q = none
 bn : L ≠ [] → b ∉ bs
 cell : L ≠ [] → s b = some (.cells (os.flatMap AV.cells ++ (L.drop i).flatMap AV.cells))
 keep : ∀ q, q ∉ bs → (L ≠ [] → q ≠ b) → s q = st q
theorem Fill.start {st : zy7} {L : List AV} {b : Nat} : Fill st L b 0 [] [] (accS st b L) := by
 refine ⟨rfl, by simp [OwnL], List.nodup_nil, by simp, by simp, fun h => ?_, fun q _ h => ?_⟩
 · rw [accS_cons h, zy7.upd_same]; rfl
 · cases L with
   | nil => rfl
   | cons x l => exact accS_ne (h (by simp))
theorem Fill.done {st s : zy7} {L os : List AV} {b w : Nat} {bs : List Nat} (h : Fill st L b L.length os bs s) (hb : L ≠ [] → st b = none) (hw : ∀ e ∈ L, e.width = w) : Made st (.slice L) (accV w b L) s := by
 obtain ⟨h1, h2, h3, h4, h5, h6, h7⟩ := h
 rw [List.take_length] at h2
 by_cases hL : L = []
 · subst hL
   simp only [OwnL] at h2
   obtain ⟨rfl, rfl⟩ := h2
   exact ⟨[], List.nodup_nil, by simp, .inl ⟨rfl, rfl, rfl⟩, fun q hq => h7 q hq (fun h => absurd rfl h)⟩
 · refine ⟨b :: bs, List.nodup_cons.2 ⟨h5 hL, h3⟩, fun q hq => ?_, ?_, fun q hq => ?_⟩
   · rcases List.mem_cons.1 hq with rfl | hq
     · exact hb hL
     · exact h4 q hq
   · rw [accV_cons hL]
     refine .inr ⟨b, bs, os, w, rfl, rfl, ?_, h2, hw⟩
     have := h6 hL
     rw [List.drop_length] at this
     simpa using this
   · simp only [List.mem_cons, not_or] at hq
     exact h7 q hq.2 fun _ => hq.1
theorem Fill.step {st s s2 : zy7} {L os B : List AV} {b i : Nat} {bs bx : List Nat} {e r : AV} (h : Fill st L b i os bs s) (he : L[i]? = some (.agg [e])) (hB : (L.drop (i + 1)).flatMap AV.cells = B) (m1 : bx.Nodup) (m2 : ∀ q ∈ bx, s q = none) (m3 : Own s2 e r bx) (m4 : ∀ q, q ∉ bx → s2 q = s q) :
 Fill st L b (i + 1) (os ++ [.agg [r]]) (bs ++ bx) (s2.upd b (.cells (os.flatMap AV.cells ++ [r] ++ B))) := by
 obtain ⟨h1, h2, h3, h4, h5, h6, h7⟩ := h
 have hi : i < L.length := (List.getElem?_eq_some_iff.1 he).1
 have hL : L ≠ [] := by rintro rfl; simp at hi
 have hsol := OwnL.solid _ _ _ h2
 have hsome : ∀ q ∈ bs, s q ≠ none := fun q hq => by obtain ⟨cs, e1, _⟩ := hsol.2 q hq; rw [e1]; simp
 have hsb := h6 hL
 have hbx : b ∉ bx := fun hq => by have := m2 b hq; rw [hsb] at this; cases this
 have hdis : ∀ q ∈ bs, q ∉ bx := fun q hq hq' => hsome q hq (m2 q hq')
 have hbs : ∀ q ∈ bs, (s2.upd b (.cells (os.flatMap AV.cells ++ [r] ++ B))) q = s q := fun q hq => by
  rw [zy7.upd_ne _ _ (by rintro rfl; exact h5 hL hq), m4 q (hdis q hq)]
 refine ⟨by simp [h1], ?_, List.nodup_append.2 ⟨h3, m1, fun a ha c hc e => hdis a ha (e ▸ hc)⟩, fun q hq => ?_, fun _ hq => ?_, fun _ => ?_, fun q hq hne => ?_⟩
 · rw [List.take_add_one, he, Option.toList_some]
   refine h2.snoc hbs ?_
   refine own_agg1.2 ⟨r, rfl, Own.keep _ _ _ (fun x hx => ?_) m3⟩
   exact zy7.upd_ne _ _ (by rintro rfl; exact hbx hx)
 · rcases List.mem_append.1 hq with hq | hq
   · exact h4 q hq
   · have h8 : q ∉ bs := fun h => hdis q h hq
     have h9 : q ≠ b := by rintro rfl; exact hbx hq
     rw [← h7 q h8 fun _ => h9]
     exact m2 q hq
 · rcases List.mem_append.1 hq with hq | hq
   · exact h5 hL hq
   · exact hbx hq
 · rw [zy7.upd_same, hB]
   simp [AV.cells]
 · simp only [List.mem_append, not_or] at hq
   rw [zy7.upd_ne _ _ (hne hL), m4 q hq.2, h7 q hq.1 hne]
abbrev tf_T9_42 := zi tI_3 (zi zI_3 (zi underlying3 (zi tI_4 (zi zI_4 (zi underlying4 (zi tI_26 (zi zI_26 (zi eI_26 (zi eB_26 (zi eZ_26 (zi underlying26 (zi tI_29 (zi zI_29 (zi eI_29 (zi eB_29 (zi eZ_29 (zi underlying29 (zi tI_31 (zi zI_31 (zi eI_31 (zi eB_31 (zi eZ_31 (zi underlying31 (zi tI_51 (zi zI_51 (zi fI_51_0 (zi bI_51 (zi tI_120 zI_120))))))))))))))))))))))))))))
set_option maxHeartbeats 2000000 in
theorem c_impl_solve (p : List Cl) {cnd : Tm → List Nat → List Nat} (hc : ∀ (ρ : Int → Int) (t : Tm) (l : List Nat), cnd (ren ρ t) l = cnd t l) (hd : ∀ t l, (∀ i ∈ cnd t l, i ∈ l) ∧ (cnd t l).length ≤ l.length) {idx : Bool} (hcnd : CndOk p idx cnd) (hidx : idx = false)
 (q : List Tm) (most fuel : Int) (st : zy7) :
 zq7 prog 42 [.slice (p.map clAv), .slice (q.map Tm.av), .int .i64 most, .int .i64 fuel, .bool idx] st (MadeT st [.slice ((solveS p cnd q most fuel).1.map ansAv), .int .i64 (solveS p cnd q most fuel).2]) := by
 refine zq7.mono (Q := fun r st' => ∃ o, r = .tup [o, .int .i64 (solveS p cnd q most fuel).2] ∧ Made st (.slice ((solveS p cnd q most fuel).1.map ansAv)) o st') ?_ (by rintro _ _ ⟨o, rfl, h⟩; exact MadeT.ofMadeI h)
 have hcan := c_canSolve p q most fuel
 have hSok := solveS_ok p hd q most fuel
 refine wF [1000000] 5 func42 ntmps42 rfl rfl ?_
 intro _
 simp -implicitDefEqProofs only [List.length_map, evF, ↓evZ, implies_true, seval, tf_T9_42]
 refine (hcan _).to ?_
 simp -implicitDefEqProofs only [List.length_map, evF, ↓evZ, implies_true, seval, tf_T9_42]
 refine zq4 (fun h => ?_) (fun h => ?_)
 · have hS : solveS p cnd q most fuel = ([], 9) := by
    unfold solveS
    rw [if_neg (by have h' : solveOk p q most fuel = false := by unfold solveOk; simpa only [Bool.not_eq_true'] using h
                   rw [h']; simp)]
   rw [hS]
   simp -implicitDefEqProofs only [List.length_map, evF, ↓evZ, implies_true, seval, tf_T9_42]
   exact ⟨_, rfl, [], List.nodup_nil, by simp, .inl ⟨rfl, rfl, rfl⟩, fun _ _ => rfl⟩
 have hok : solveOk p q most fuel = true := by unfold solveOk; simpa using h
 have hk := hok
 simp only [solveOk, Bool.and_eq_true, decide_eq_true_eq] at hk
 obtain ⟨kp, kq, k1, k2, k3, k4⟩ := hk
 obtain ⟨p1, p2⟩ := progOk_X kp
 obtain ⟨q1, q2⟩ := queryOk_X kq
 have hTT : solveS p cnd q most fuel = iRun p cnd (tmsVars q []) most.toNat fuel.toNat (iStart q) := by
  unfold solveS
  rw [if_pos hok, solve_sim (fun c h => (p2 c h).1) hc q2]
 rw [hTT] at hSok ⊢
 clear hTT hcan hok h
 obtain ⟨mo, rfl⟩ := Int.eq_ofNat_of_zero_le k1
 obtain ⟨fu, rfl⟩ := Int.eq_ofNat_of_zero_le k3
 rw [Int.toNat_natCast, Int.toNat_natCast] at hSok ⊢
 simp -implicitDefEqProofs only [List.length_map, evF, ↓evZ, implies_true, seval, tf_T9_42]
 refine (c_newSearch p q (fu : Int) idx (by omega) st).mono ?_
 rintro _ s1 ⟨S, c, m, rfl, hA⟩
 simp -implicitDefEqProofs only [List.length_map, evF, ↓evZ, implies_true, seval, tf_T9_42]
 refine (c_run p2 p1 hc hd hcnd hidx q2 q1 (most := mo) (fuel := fu) (by omega) (by omega) hA).mono ?_
 generalize iRun p cnd (tmsVars q []) mo fu (iStart q) = T at hSok ⊢
 rintro _ _ ⟨b, s2, rfl, rfl, hb, hD⟩
 obtain ⟨L, e⟩ := T
 simp only at hSok hb ⊢
 have hb' : L.map ansAv ≠ [] → st b = none := fun h => (hD b).1 (hb h)
 have hun : prog.underlying 26 = some (.slice 51) := by kernel_rfl
 have hlenA := accV_len (w := 1) (b := b) (l := L.map ansAv) hun
 rw [List.length_map] at hlenA
 have hwd : ∀ e ∈ L.map ansAv, e.width = 1 := fun e he => by simp only [List.mem_map] at he; obtain ⟨t, _, rfl⟩ := he; rfl
 simp -implicitDefEqProofs only [List.length_map, hlenA, accV_junk, accV_store, accV_agg, accV_cells, evF, ↓evZ, implies_true, seval, tf_T9_42]
 refine zy5 (σ := List AV × List Nat × zy7) [1000000] [10, 11, 12, 13, 32, 33] L (fun j x => Fill st (L.map ansAv) b j x.1 x.2.1 x.2.2) (fun j x => [(34, .int .i64 j)]) (fun j x => x.2.2) (by decide +kernel) ⟨([], [], accS st b (L.map ansAv)), Fill.start, zx7.drop (drops_acc2 hD) (by simp -implicitDefEqProofs only [List.length_map, hlenA, accV_junk, accV_store, accV_agg, accV_cells, evF, ↓evZ, implies_true, seval, tf_T9_42])⟩ (fun j a x hx hlt hlt' hdr hinv => ?_) (fun x hge hinv => ?_)
 case refine_2 =>
  simp -implicitDefEqProofs only [hge, List.length_map, hlenA, accV_junk, accV_store, accV_agg, accV_cells, evF, ↓evZ, implies_true, seval, tf_T9_42]
  have hinv' : Fill st (L.map ansAv) b (L.map ansAv).length x.1 x.2.1 x.2.2 := by rw [List.length_map]; exact hinv
  exact ⟨_, rfl, hinv'.done hb' hwd⟩
 obtain ⟨os, bs, s⟩ := x
 simp only at hinv
 have hw := wrap64 (n := (j : Int) + 1) (by omega) (by omega)
 have hne : L.map ansAv ≠ [] := by intro h; have := congrArg List.length h; simp at this; subst this; simp at hlt
 have hget : (L.map ansAv)[j]? = some (.agg [.slice (a.map Tm.av)]) := by rw [List.getElem?_map, hx]; rfl
 have hc2 := hinv.cell hne
 have hdr2 : ((L.map ansAv).drop j).flatMap AV.cells = [.slice (a.map Tm.av)] ++ ((L.map ansAv).drop (j + 1)).flatMap AV.cells := by
  rw [← List.map_drop, hdr, List.map_cons, List.flatMap_cons, List.map_drop]; rfl
 rw [hdr2, ← List.append_assoc] at hc2
 have hA2 : (os.flatMap AV.cells).length = j * 1 := by
  rw [hinv.own.flatLen (fun q hq => hwd q (List.mem_of_mem_take hq)), List.length_take, List.length_map, Nat.min_eq_left (by omega)]
 obtain ⟨e1, e2, e3, e4, e5, e6⟩ := midE (B := ((L.map ansAv).drop (j + 1)).flatMap AV.cells) hA2
 have hat := held_at (P := prog) (b := b) (w := 1) (i := j) eI_26 (len := (L.map ansAv).length) (by rw [List.length_map]; omega)
 have htk : List.take 1 (List.drop (j * 1) (os.flatMap AV.cells ++ [.slice (a.map Tm.av)] ++ ((L.map ansAv).drop (j + 1)).flatMap AV.cells)) = [.slice (a.map Tm.av)] := by
  rw [List.append_assoc, List.drop_append, List.drop_of_length_le (by omega), hA2]
  simp
 obtain ⟨hal, hav⟩ := hSok.2 a (List.mem_of_getElem? hx)
 rw [accV_cons hne] at hlenA ⊢
 rw [List.length_map] at hat hlenA ⊢
 simp -implicitDefEqProofs only [hlt', List.length_map, hlenA, hat, hc2, htk, e1, e2, e3, e4, e5, e6, evF, ↓evZ, implies_true, seval, tf_T9_42]
 refine (o_ownList a _ (by omega) fun x hx s => o_own x s (Tm.valid_small (List.all_eq_true.1 hav x hx))).mono ?_
 rintro r s3 ⟨bx, m1, m2, m3, m4⟩
 have hbx : b ∉ bx := fun h => by have := m2 b h; rw [hc2] at this; cases this
 have f1 := (m4 b hbx).trans hc2
 obtain ⟨hqc, hqs, hqa, hqw, hqj⟩ := Own.one' m3
 simp -implicitDefEqProofs only [List.length_map, hlenA, hat, f1, hqc, hqs, hqa, hqw, hqj, e1, e2, e3, e4, e5, e6, Nat.add_zero, List.set_cons_zero, evF, ↓evZ, implies_true, seval, tf_T9_42]
 exact ⟨(os ++ [.agg [r]], bs ++ bx, s3.upd b (.cells (os.flatMap AV.cells ++ [r] ++ ((L.map ansAv).drop (j + 1)).flatMap AV.cells))), hinv.step hget rfl m1 m2 m3 m4, zx7.mk (by simp -implicitDefEqProofs only [hw, List.length_map, hlenA, hat, f1, hqc, hqs, hqa, hqw, hqj, e1, e2, e3, e4, e5, e6, Nat.add_zero, List.set_cons_zero, evF, ↓evZ, implies_true, seval, tf_T9_42])⟩
abbrev tf_T9_12 := zi tI_3 (zi zI_3 (zi underlying3 (zi tI_4 (zi zI_4 (zi underlying4 (zi tI_26 (zi zI_26 (zi eI_26 (zi eB_26 (zi eZ_26 (zi underlying26 (zi tI_29 (zi zI_29 (zi eI_29 (zi eB_29 (zi eZ_29 (zi underlying29 (zi tI_31 (zi zI_31 (zi eI_31 (zi eB_31 (zi eZ_31 underlying31))))))))))))))))))))))
theorem c_impl_Solve (p : List Cl) (q : List Tm) (most fuel : Int) (st : zy7) :
 zq7 prog 12 [.slice (p.map clAv), .slice (q.map Tm.av), .int .i64 most, .int .i64 fuel] st (MadeT st [.slice ((solveS p (fun _ l => l) q most fuel).1.map ansAv), .int .i64 (solveS p (fun _ l => l) q most fuel).2]) := by
 refine zq7.mono (Q := fun r st' => ∃ o, r = .tup [o, .int .i64 (solveS p (fun _ l => l) q most fuel).2] ∧ Made st (.slice ((solveS p (fun _ l => l) q most fuel).1.map ansAv)) o st') ?_ (by rintro _ _ ⟨o, rfl, h⟩; exact MadeT.ofMadeI h)
 refine wF [1000000] 4 func12 ntmps12 rfl rfl ?_
 intro _
 simp -implicitDefEqProofs only [List.length_map, evF, ↓evZ, implies_true, seval, tf_T9_12]
 refine (c_impl_solve p (cnd := fun _ l => l) (fun _ _ _ => rfl) (fun _ l => ⟨fun _ h => h, Nat.le_refl _⟩) (idx := false) (fun _ => rfl) rfl q most fuel st).mono ?_
 intro r s1 h
 obtain ⟨o, rfl, hM⟩ := h.toMadeI
 obtain ⟨hqc, hqs, hqa, hqw, hqj⟩ := Own.one' hM.choose_spec.2.2.1
 simp -implicitDefEqProofs only [List.length_map, hqc, hqs, hqa, hqw, hqj, evF, ↓evZ, implies_true, seval, tf_T9_12]
 exact ⟨_, rfl, hM⟩
end Go.AW
namespace Go.AW
mutual
def AV.deep : AV → AV
 | .fslice es => .slice (deepL es)
 | .slice es => .slice (deepL es)
 | .agg cs => .agg (deepL cs)
 | a => a
def deepL : List AV → List AV
 | [] => []
 | a :: us => a.deep :: deepL us
end
theorem deepL_length : ∀ us : List AV, (deepL us).length = us.length
 | [] => rfl
 | a :: us => by simp [deepL, deepL_length us]
theorem deep_width (a : AV) : a.deep.width = a.width := by cases a <;> simp [AV.deep, AV.width, deepL_length]
theorem deepL_mem : ∀ {us : List AV} {e : AV}, e ∈ deepL us → ∃ x ∈ us, e = x.deep
 | [], e, h => by simp [deepL] at h
 | a :: us, e, h => by
  simp only [deepL, List.mem_cons] at h
  rcases h with rfl | h
  · exact ⟨a, by simp, rfl⟩
  · obtain ⟨x, hx, rfl⟩ := deepL_mem h
    exact ⟨x, by simp [hx], rfl⟩
theorem deep_even {us : List AV} (h : Even us) : Even (deepL us) := by
 obtain ⟨k, hk⟩ := h
 refine ⟨k, fun e he => ?_⟩
 obtain ⟨x, hx, rfl⟩ := deepL_mem he
 rw [deep_width]; exact hk x hx
section
variable {h : Heap} {st : zy7}
mutual
theorem VC.deep : ∀ (a : AV) (cs : List Value), VC h st a cs → VC h st a.deep cs
 | .fslice es, cs, x => by
  simp only [AV.deep]
  unfold VC at x ⊢
  rcases x with ⟨x, rfl⟩ | ⟨b, off, e, l, r1, r2, r3, r4⟩
  · exact .inl ⟨x, rfl⟩
  · exact .inr ⟨b, off, es.length, by rw [deepL_length]; exact e, by rw [deepL_length]; exact Nat.le_refl _, l, r1, r2, deep_even r3, VEs.deep es b off r4⟩
 | .slice es, cs, x => by
  simp only [AV.deep]
  unfold VC at x ⊢
  rcases x with ⟨x, rfl⟩ | ⟨b, off, cap, e, l1, l2, r1, r2, r3, r4⟩
  · exact .inl ⟨x, rfl⟩
  · exact .inr ⟨b, off, cap, by rw [deepL_length]; exact e, by rw [deepL_length]; exact l1, l2, r1, r2, deep_even r3, VEs.deep es b off r4⟩
 | .agg us, cs, x => by simp only [VC, AV.deep] at x ⊢; exact VCs.deep us cs x
 | .tup _, cs, x => x
 | .mslice _ _ _ _, cs, x => x
 | .junk, cs, x => x
 | .undef, cs, x => x
 | .int _ _, cs, x => x
 | .bool _, cs, x => x
 | .str _, cs, x => x
 | .nilptr, cs, x => x
 | .ptr _ _, cs, x => x
 | .pptr _, cs, x => x
 | .nilmap, cs, x => x
 | .map _, cs, x => x
 | .func _ _, cs, x => x
 | .raw _, cs, x => x
 | .eslice, cs, x => x
theorem VCs.deep : ∀ (us : List AV) (cs : List Value), VCs h st us cs → VCs h st (deepL us) cs
 | [], _, x => x
 | a :: us, cs, x => by
  simp only [VCs, deepL] at x ⊢
  obtain ⟨c, r, e, x1, x2⟩ := x
  exact ⟨c, r, e, VC.deep a [c] x1, VCs.deep us r x2⟩
theorem VEs.deep : ∀ (us : List AV) (b off : Nat), VEs h st b off us → VEs h st b off (deepL us)
 | [], _, _, x => x
 | a :: us, b, off, x => by
  simp only [VEs, deepL, deep_width] at x ⊢
  obtain ⟨⟨cs, x1, x2, x3⟩, x4⟩ := x
  exact ⟨⟨cs, x1, x2, VC.deep a cs x3⟩, VEs.deep us b _ x4⟩
end
theorem VRel.deep {a : AV} {v : Value} (x : VRel h st a v) : VRel h st a.deep v := by
 cases a
 case fslice => exact ⟨x.1, VC.deep _ _ x.2⟩
 case slice => exact ⟨x.1, VC.deep _ _ x.2⟩
 case agg => exact ⟨x.1, VC.deep _ _ x.2⟩
 all_goals exact x
end
theorem zq7.deepArgs {P : Program} {g : FuncId} {args : List AV} {st : zy7} {Q : AV → zy7 → Prop} (x : zq7 P g (deepL args) st Q) : zq7 P g args st Q :=
 x.args fun hp => by
  have : ∀ (us : List AV) (vs : List Value), VRelL hp st us vs → VRelL hp st (deepL us) vs := by
   intro us
   induction us with
   | nil => intro vs y; exact y
   | cons a us ih =>
    intro vs y
    simp only [VRelL, deepL] at y ⊢
    obtain ⟨v, r, rfl, y1, y2⟩ := y
    exact ⟨v, r, rfl, y1.deep, ih r y2⟩
  exact fun vs _ => this args vs
end Go.AW
namespace Go.AW
open Go.Proofs.Tryz
mutual
theorem Tm.av_deep : ∀ t : Tm, t.av.deep = t.av
 | .mk k n s ts => by rw [Tm.av_mk]; simp only [AV.deep, deepL, tms_deep ts]
theorem tms_deep : ∀ ts : List Tm, deepL (ts.map Tm.av) = ts.map Tm.av
 | [] => rfl
 | t :: ts => by simp only [List.map_cons, deepL, Tm.av_deep t, tms_deep ts]
end
theorem bd_deep (b : Bd) : (bdAv b).deep = bdAv b := by
 obtain ⟨n, k, m, s, ts⟩ := b
 show (AV.agg (.int .i64 n :: (Tm.mk k m s ts).av.cells)).deep = AV.agg (.int .i64 n :: (Tm.mk k m s ts).av.cells)
 rw [Tm.av_mk]
 simp only [AV.cells, AV.deep, deepL, tms_deep ts]
theorem bds_deep : ∀ bs : List Bd, deepL (bs.map bdAv) = bs.map bdAv
 | [] => rfl
 | b :: bs => by simp only [List.map_cons, deepL, bd_deep b, bds_deep bs]
theorem eqL_refl (l : List Tm) : eqL Tm.same l l = true := (eqL_eq (fun x _ y => Tm.same_eq x y)).2 rfl
abbrev tf_Qf_54 := zi tI_4 (zi zI_4 (zi underlying4 (zi tI_31 (zi zI_31 (zi eI_31 (zi eB_31 (zi eZ_31 (zi underlying31 (zi tI_51 (zi zI_51 (zi fI_51_0 bI_51)))))))))))
theorem c_AnswerSame (l l' : List Tm) (st : zy7) : zq7 prog 54 [ansAv l, ansAv l'] st (fun r st' => r = .bool (eqL Tm.same l l') ∧ st' = st) := by
 refine wF [1000000] 2 func54 ntmps54 rfl rfl ?_
 intro _
 simp -implicitDefEqProofs only [ansAv, evF, ↓evZ, implies_true, seval, tf_Qf_54]
 refine (c_EqualFuncTerm l l' 69 _ fun x _ y s => c_impl_TermSame x y s).to ?_
 simp -implicitDefEqProofs only [ansAv, evF, ↓evZ, implies_true, seval, tf_Qf_54]
abbrev tf_Qf_24 := zi tI_3 (zi zI_3 (zi underlying3 (zi tI_4 (zi zI_4 (zi underlying4 (zi tI_26 (zi zI_26 (zi eI_26 (zi eB_26 (zi eZ_26 (zi underlying26 (zi tI_51 (zi zI_51 (zi fI_51_0 bI_51))))))))))))))
theorem c_pgAnswers (L : List (List Tm)) (st : zy7) : zq7 prog 24 [.slice (L.map ansAv), .slice (L.map ansAv)] st (fun r st' => r = .bool true ∧ st' = st) := by
 refine wF [1000000] 2 func24 ntmps24 rfl rfl ?_
 simp only [fitsL, AV.fits, and_true, List.length_map]
 intro ⟨⟨hl, _⟩, _⟩
 simp -implicitDefEqProofs only [decide_true, List.length_map, evF, ↓evZ, implies_true, seval, tf_Qf_24]
 refine zy5 (σ := Unit) [1000000] [0, 1] L (fun _ _ => True) (fun i _ => [(4, .bool false), (5, .int .i64 i)]) (fun _ _ => st) (by decide +kernel) ⟨(), trivial, zx7.mk (by simp -implicitDefEqProofs only [List.length_map, evF, ↓evZ, implies_true, seval, tf_Qf_24])⟩ (fun i x _ hx hlt hlt' hdr _ => ?_) (fun _ hge _ => ?_)
 case refine_2 =>
  simp -implicitDefEqProofs only [hge, List.length_map, evF, ↓evZ, implies_true, seval, tf_Qf_24]
 have hw := wrap64 (n := (i : Int) + 1) (by omega) (by omega)
 have hat : aIndexAddr prog 26 (.slice (L.map ansAv)) (.int .i64 (i : Int)) = some (.pptr (ansAv x)) := ev_at (av := ansAv) eI_26 hx rfl
 simp -implicitDefEqProofs only [hlt', List.length_map, hat, hw, evF, ↓evZ, implies_true, seval, tf_Qf_24]
 refine wX [(0, 1), (1, 1), (2, 1), (3, 1), (4, 1), (5, 1), (6, 1), (7, 1), (8, 0), (9, 1)] [0, 1, 2, 3, 4, 5, 6, 7, 9] none0' mixed rfl ext_none ?_
 simp -implicitDefEqProofs only [decide_true, beq_self_eq_true, List.length_map, hat, hw, evF, ↓evZ, implies_true, seval, tf_Qf_24]
 refine (c_AnswerSame x x _).to ?_
 rw [eqL_refl]
 simp -implicitDefEqProofs only [List.length_map, hat, hw, evF, ↓evZ, implies_true, seval, tf_Qf_24]
 refine ⟨ext_none, ?_⟩
 exact ⟨(), zx7.mk (by simp -implicitDefEqProofs only [List.length_map, hat, hw, evF, ↓evZ, implies_true, seval, tf_Qf_24])⟩
abbrev tf_Qf_5 := zi tI_3 (zi zI_3 (zi underlying3 (zi tI_4 (zi zI_4 (zi underlying4 (zi tI_5 (zi zI_5 (zi underlying5 (zi tI_10 (zi zI_10 (zi underlying10 (zi tI_26 (zi zI_26 (zi eI_26 (zi eB_26 (zi eZ_26 (zi underlying26 (zi tI_29 (zi zI_29 (zi eI_29 (zi eB_29 (zi eZ_29 (zi underlying29 (zi tI_31 (zi zI_31 (zi eI_31 (zi eB_31 (zi eZ_31 (zi underlying31 (zi tI_40 (zi zI_40 (zi eI_40 (zi eB_40 (zi eZ_40 (zi underlying40 (zi tI_42 (zi zI_42 (zi fI_42_0 (zi fI_42_1 (zi fI_42_2 (zi fI_42_3 (zi bI_42 (zi tI_45 (zi zI_45 (zi eI_45 (zi eB_45 (zi eZ_45 (zi underlying45 (zi tI_51 (zi zI_51 (zi fI_51_0 bI_51)))))))))))))))))))))))))))))))))))))))))))))))))))
set_option maxHeartbeats 2000000 in
theorem c_FnSolveEqual (code : List Bt) (st : zy7) : zq7 prog 5 [.slice (code.map byteAv)] st (fun r _ => r = .bool true) := by
 refine wF [1000000] 1 func5 ntmps5 rfl rfl ?_
 intro _
 simp -implicitDefEqProofs only [List.length_map, zy4, evF, ↓evZ, implies_true, seval, tf_Qf_5]
 refine zq4 (fun h1 => ?_) (fun h1 => ?_)
 · simp -implicitDefEqProofs only [List.length_map, zy4, evF, ↓evZ, implies_true, seval, tf_Qf_5]
 simp -implicitDefEqProofs only [List.length_map, zy4, evF, ↓evZ, implies_true, seval, tf_Qf_5]
 refine (c_DrawUnifyTerms code _).mono ?_
 rintro _ s1 ⟨⟨a, b, rfl⟩, rfl⟩
 simp -implicitDefEqProofs only [take_all (Tm.av_cells a), agg_cells (Tm.av_agg a), take_all (Tm.av_cells b), agg_cells (Tm.av_agg b), Tm.av_agg, Tm.av_width, Tm.av_store, Tm.av_junk, Tm.av_cells, Nat.le_refl, zy4, evF, ↓evZ, implies_true, seval, tf_Qf_5]
 intro b3 h3 b4 h4
 have h43 : b4 ≠ b3 := by rintro rfl; rw [zy7.upd_same] at h4; cases h4
 have hn4 : s1 b4 = none := by rw [zy7.upd_ne _ _ h43] at h4; exact h4
 simp -implicitDefEqProofs only [Tm.av_agg, Tm.av_width, Tm.av_store, Tm.av_junk, Tm.av_cells, Nat.le_refl, zy4, h43, h43.symm, zero_cells, take_all (Tm.av_cells a), agg_cells (Tm.av_agg a), take_all (Tm.av_cells b), agg_cells (Tm.av_agg b), evF, ↓evZ, implies_true, seval, tf_Qf_5]
 have hS1 := fun st => (c_impl_Solve [] [eqG a b] 5 10 st).madeT
 have hS2 := c_spec_Solve [] [eqG a b] 5 10
 have hlaw := @eq_law a b
 have hbad : queryOk [eqG a b] = false → solveS [] (fun _ l => l) [eqG a b] 5 10 = ([], 9) := fun h => by
  unfold solveS
  rw [if_neg (by unfold solveOk; rw [h]; decide)]
 generalize solveS [] (fun _ l => l) [eqG a b] 5 10 = T at *
 obtain ⟨L, e⟩ := T
 have hgE : [eqG a b].map Tm.av = [AV.agg [.int .i64 3, .int .i64 0, .str ⟨#[61]⟩, .slice [a.av, b.av]]] := by simp only [List.map_cons, List.map_nil, eqG, Tm.av_mk]
 simp only [hgE, List.map_nil] at hS1 hS2
 refine zq7.to (zq7.deepArgs (by simp only [AV.deep, deepL, Tm.av_deep]; exact hS1 _)) ?_
 simp -implicitDefEqProofs only [Tm.av_agg, Tm.av_width, Tm.av_store, Tm.av_junk, Tm.av_cells, Nat.le_refl, zy4, h43, h43.symm, zero_cells, take_all (Tm.av_cells a), agg_cells (Tm.av_agg a), take_all (Tm.av_cells b), agg_cells (Tm.av_agg b), evF, ↓evZ, implies_true, seval, tf_Qf_5]
 refine zq7.to (zq7.deepArgs (by simp only [AV.deep, deepL, Tm.av_deep]; exact hS2 _)) ?_
 simp -implicitDefEqProofs only [Tm.av_agg, Tm.av_width, Tm.av_store, Tm.av_junk, Tm.av_cells, Nat.le_refl, zy4, h43, h43.symm, zero_cells, take_all (Tm.av_cells a), agg_cells (Tm.av_agg a), take_all (Tm.av_cells b), agg_cells (Tm.av_agg b), evF, ↓evZ, implies_true, seval, tf_Qf_5]
 refine (c_impl_UnifyTerms a b _).to ?_
 obtain ⟨bs, f, hbf, hnone, hsome⟩ : ∃ (bs : List Bd) (f : Bool), uniAv (uniB a b) = .tup [.slice (bs.map bdAv), .bool f] ∧ (uniB a b = none → bs = [] ∧ f = false) ∧ ∀ l, uniB a b = some l → bs = l ∧ f = true := by
  cases uniB a b with
  | none => exact ⟨[], false, rfl, fun _ => ⟨rfl, rfl⟩, fun l h => by cases h⟩
  | some bs => exact ⟨bs, true, rfl, fun h => (by cases h), fun l h => by cases h; exact ⟨rfl, rfl⟩⟩
 rw [hbf]
 simp -implicitDefEqProofs only [decide_true, Tm.av_agg, Tm.av_width, Tm.av_store, Tm.av_junk, Tm.av_cells, Nat.le_refl, zy4, h43, h43.symm, zero_cells, take_all (Tm.av_cells a), agg_cells (Tm.av_agg a), take_all (Tm.av_cells b), agg_cells (Tm.av_agg b), evF, ↓evZ, implies_true, seval, tf_Qf_5]
 refine (c_pgAnswers L _).to ?_
 simp -implicitDefEqProofs only [beq_self_eq_true, decide_true, Tm.av_agg, Tm.av_width, Tm.av_store, Tm.av_junk, Tm.av_cells, Nat.le_refl, zy4, h43, h43.symm, zero_cells, take_all (Tm.av_cells a), agg_cells (Tm.av_agg a), take_all (Tm.av_cells b), agg_cells (Tm.av_agg b), evF, ↓evZ, implies_true, seval, tf_Qf_5]
 refine zq4 (fun he => ?_) (fun he => ?_)
 · simp -implicitDefEqProofs only [decide_true, Tm.av_agg, Tm.av_width, Tm.av_store, Tm.av_junk, Tm.av_cells, Nat.le_refl, zy4, h43, h43.symm, zero_cells, take_all (Tm.av_cells a), agg_cells (Tm.av_agg a), take_all (Tm.av_cells b), agg_cells (Tm.av_agg b), evF, ↓evZ, implies_true, seval, tf_Qf_5]
   refine (c_pgAnswers L _).to ?_
   simp -implicitDefEqProofs only [beq_self_eq_true, decide_true, Tm.av_agg, Tm.av_width, Tm.av_store, Tm.av_junk, Tm.av_cells, Nat.le_refl, zy4, h43, h43.symm, zero_cells, take_all (Tm.av_cells a), agg_cells (Tm.av_agg a), take_all (Tm.av_cells b), agg_cells (Tm.av_agg b), evF, ↓evZ, implies_true, seval, tf_Qf_5]
 have he' : e = 0 := by simpa using he
 subst he'
 have hq : queryOk [eqG a b] = true := by
  cases h : queryOk [eqG a b] with
  | true => rfl
  | false => have := hbad h; simp at this
 rcases hlaw hq rfl with ⟨rfl, hu⟩ | ⟨x, bs', rfl, hu, hlast⟩
 · obtain ⟨rfl, rfl⟩ := hnone hu
   simp -implicitDefEqProofs only [List.length_nil, List.map_nil, Tm.av_agg, Tm.av_width, Tm.av_store, Tm.av_junk, Tm.av_cells, Nat.le_refl, zy4, h43, h43.symm, zero_cells, take_all (Tm.av_cells a), agg_cells (Tm.av_agg a), take_all (Tm.av_cells b), agg_cells (Tm.av_agg b), evF, ↓evZ, implies_true, seval, tf_Qf_5]
 obtain ⟨rfl, rfl⟩ := hsome bs' hu
 have hat : aIndexAddr prog 26 (.slice [ansAv x]) (.int .i64 0) = some (.pptr (ansAv x)) := ev_at (av := ansAv) (l := [x]) (i := 0) eI_26 rfl rfl
 simp only [List.map_cons, List.map_nil] at hat ⊢
 simp -implicitDefEqProofs only [List.length_cons, List.length_nil, Tm.av_agg, Tm.av_width, Tm.av_store, Tm.av_junk, Tm.av_cells, Nat.le_refl, zy4, hat, h43, h43.symm, zero_cells, take_all (Tm.av_cells a), agg_cells (Tm.av_agg a), take_all (Tm.av_cells b), agg_cells (Tm.av_agg b), evF, ↓evZ, implies_true, seval, tf_Qf_5]
 have hAG := fun st => (zq7.mono (c_impl_AnswerGoals [eqG a b] x st) (Q' := MadeT st [.slice (((ansGoals [eqG a b] x).getD []).map Tm.av), .bool (ansGoals [eqG a b] x).isSome]) (by rintro _ _ ⟨o, rfl, h⟩; exact MadeT.ofMade h)).madeT
 have hAB := c_impl_ApplyBinds (eqG a b) bs
 simp only [hgE] at hAG
 rw [show (eqG a b).av = AV.agg [.int .i64 3, .int .i64 0, .str ⟨#[61]⟩, .slice [a.av, b.av]] by simp only [eqG, Tm.av_mk, List.map_cons, List.map_nil]] at hAB
 refine wX [(0, 1), (1, 1), (2, 1), (3, 1), (4, 1), (5, 0), (6, 1), (7, 1), (8, 1), (9, 1), (10, 1)] [0, 1, 2, 3, 4, 6, 7, 8, 9, 10] none0' mixed rfl ext_none ?_
 simp -implicitDefEqProofs only [Tm.av_agg, Tm.av_width, Tm.av_store, Tm.av_junk, Tm.av_cells, Nat.le_refl, zy4, hat, h43, h43.symm, zero_cells, take_all (Tm.av_cells a), agg_cells (Tm.av_agg a), take_all (Tm.av_cells b), agg_cells (Tm.av_agg b), evF, ↓evZ, implies_true, seval, tf_Qf_5]
 refine zq7.to (zq7.deepArgs (by simp only [AV.deep, deepL, Tm.av_deep, tms_deep]; exact hAG _)) ?_
 simp -implicitDefEqProofs only [Tm.av_agg, Tm.av_width, Tm.av_store, Tm.av_junk, Tm.av_cells, Nat.le_refl, zy4, hat, h43, h43.symm, zero_cells, take_all (Tm.av_cells a), agg_cells (Tm.av_agg a), take_all (Tm.av_cells b), agg_cells (Tm.av_agg b), evF, ↓evZ, implies_true, seval, tf_Qf_5]
 refine ⟨ext_none, ?_⟩
 refine zq7.to (zq7.deepArgs (by simp only [AV.deep, deepL, Tm.av_deep, bds_deep]; exact hAB _)) ?_
 cases hy : appB (eqG a b) bs with
 | none =>
  simp only [optAv]
  simp -implicitDefEqProofs only [Tm.zero, Tm.av_agg, Tm.av_width, Tm.av_store, Tm.av_junk, Tm.av_cells, Nat.le_refl, zy4, hat, h43, h43.symm, zero_cells, take_all (Tm.av_cells a), agg_cells (Tm.av_agg a), take_all (Tm.av_cells b), agg_cells (Tm.av_agg b), evF, ↓evZ, implies_true, seval, tf_Qf_5]
  refine wX [(0, 1), (1, 1), (2, 1), (3, 1), (4, 1), (5, 1), (6, 1), (7, 1), (8, 1), (9, 1), (10, 1), (11, 1), (12, 1), (13, 1), (14, 1), (15, 0), (16, 1), (17, 1), (18, 1)] [0, 1, 2, 3, 4, 5, 6, 7, 8, 9, 10, 11, 12, 13, 14, 16, 17, 18] none0' mixed rfl ext_none ?_
  cases (ansGoals [eqG a b] x).isSome with
  | false =>
   simp -implicitDefEqProofs only [decide_true, Tm.av_agg, Tm.av_width, Tm.av_store, Tm.av_junk, Tm.av_cells, Nat.le_refl, zy4, hat, h43, h43.symm, zero_cells, take_all (Tm.av_cells a), agg_cells (Tm.av_agg a), take_all (Tm.av_cells b), agg_cells (Tm.av_agg b), evF, ↓evZ, implies_true, seval, tf_Qf_5]
   exact ext_none
  | true =>
   simp -implicitDefEqProofs only [decide_true, Tm.av_agg, Tm.av_width, Tm.av_store, Tm.av_junk, Tm.av_cells, Nat.le_refl, zy4, hat, h43, h43.symm, zero_cells, take_all (Tm.av_cells a), agg_cells (Tm.av_agg a), take_all (Tm.av_cells b), agg_cells (Tm.av_agg b), evF, ↓evZ, implies_true, seval, tf_Qf_5]
   exact ext_none
 | some y =>
  simp only [optAv]
  cases hgs : ansGoals [eqG a b] x with
  | none =>
   simp only [Option.isSome_none, Option.getD_none, List.map_nil]
   simp -implicitDefEqProofs only [Tm.av_agg, Tm.av_width, Tm.av_store, Tm.av_junk, Tm.av_cells, Nat.le_refl, zy4, hat, h43, h43.symm, zero_cells, take_all (Tm.av_cells a), agg_cells (Tm.av_agg a), take_all (Tm.av_cells b), agg_cells (Tm.av_agg b), evF, ↓evZ, implies_true, seval, tf_Qf_5]
   refine wX [(0, 1), (1, 1), (2, 1), (3, 1), (4, 1), (5, 1), (6, 1), (7, 1), (8, 1), (9, 1), (10, 1), (11, 1), (12, 1), (13, 1), (14, 1), (15, 0), (16, 1), (17, 1), (18, 1)] [0, 1, 2, 3, 4, 5, 6, 7, 8, 9, 10, 11, 12, 13, 14, 16, 17, 18] none0' mixed rfl ext_none ?_
   simp -implicitDefEqProofs only [decide_true, Tm.av_agg, Tm.av_width, Tm.av_store, Tm.av_junk, Tm.av_cells, Nat.le_refl, zy4, hat, h43, h43.symm, zero_cells, take_all (Tm.av_cells a), agg_cells (Tm.av_agg a), take_all (Tm.av_cells b), agg_cells (Tm.av_agg b), evF, ↓evZ, implies_true, seval, tf_Qf_5]
   exact ext_none
  | some gs =>
   obtain ⟨z, rfl, hz, hyv, hzy⟩ := hlast gs y hgs hy
   have hVT := c_impl_VariantTerms z y hz hyv
   rw [hzy, tm_same_refl] at hVT
   have hat2 : aIndexAddr prog 31 (.slice [z.av]) (.int .i64 0) = some (.pptr z.av) := ev_at (av := Tm.av) (l := [z]) (i := 0) eI_31 rfl (Tm.av_width z)
   simp only [Option.isSome_some, Option.getD_some, List.map_cons, List.map_nil]
   simp -implicitDefEqProofs only [Tm.av_agg, Tm.av_width, Tm.av_store, Tm.av_junk, Tm.av_cells, Nat.le_refl, zy4, hat, h43, h43.symm, zero_cells, take_all (Tm.av_cells a), agg_cells (Tm.av_agg a), take_all (Tm.av_cells b), agg_cells (Tm.av_agg b), evF, ↓evZ, implies_true, seval, tf_Qf_5]
   refine wX [(0, 1), (1, 1), (2, 1), (3, 1), (4, 1), (5, 1), (6, 1), (7, 1), (8, 1), (9, 1), (10, 1), (11, 1), (12, 1), (13, 1), (14, 1), (15, 0), (16, 1), (17, 1), (18, 1)] [0, 1, 2, 3, 4, 5, 6, 7, 8, 9, 10, 11, 12, 13, 14, 16, 17, 18] none0' mixed rfl ext_none ?_
   simp -implicitDefEqProofs only [decide_true, hat2, Tm.av_agg, Tm.av_width, Tm.av_store, Tm.av_junk, Tm.av_cells, Nat.le_refl, zy4, hat, h43, h43.symm, zero_cells, take_all (Tm.av_cells a), agg_cells (Tm.av_agg a), take_all (Tm.av_cells b), agg_cells (Tm.av_agg b), evF, ↓evZ, implies_true, seval, tf_Qf_5]
   refine (hVT _).to ?_
   simp -implicitDefEqProofs only [decide_true, Tm.av_agg, Tm.av_width, Tm.av_store, Tm.av_junk, Tm.av_cells, Nat.le_refl, zy4, hat, h43, h43.symm, zero_cells, take_all (Tm.av_cells a), agg_cells (Tm.av_agg a), take_all (Tm.av_cells b), agg_cells (Tm.av_agg b), evF, ↓evZ, implies_true, seval, tf_Qf_5]
   exact ext_none
end Go.AW
