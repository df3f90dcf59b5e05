import Derived.Test.YtcndknlbedcimaaGreatDoorSeqn
import Derived.Test.YtcndknlbedcimaaGreatDoorSeqo
import Derived.Test.YtcndknlbedcimaaGreatDoorSeqm
import Derived.Test.YtcndknlbedcimaaGreatDoorSeqj
import Derived.Test.YtcndknlbedcimaaGreatDoorSeql
import Derived.Test.YtcndknlbedcimaaGreatDoorSeqk
set_option linter.unusedSimpArgs false
set_option linter.unusedVariables false
set_option maxRecDepth 100000
namespace Go.AW
open Go.Proofs.Tryz
def glAv : List IG → AV
 | [] => .nilptr
 | ⟨.mk k n s ts, cut, up⟩ :: l => .pptr (.agg [.int .i64 k, .int .i64 n, .str s, .slice (ts.map Tm.av), .int .i64 (cut : Int), .int .i64 up, glAv l])
theorem glAv_cons (k n : Int) (s : ByteArray) (ts : List Tm) (cut : Nat) (up : Int) (l : List IG) : glAv (⟨.mk k n s ts, cut, up⟩ :: l) = .pptr (.agg [.int .i64 k, .int .i64 n, .str s, .slice (ts.map Tm.av), .int .i64 (cut : Int), .int .i64 up, glAv l]) := by rw [glAv]
theorem glAv_facts (l : List IG) : (glAv l).isAgg = false ∧ (glAv l).width = 1 ∧ (glAv l).isJunk = false ∧ (glAv l).cells = [glAv l] ∧ (glAv l).storable = true ∧ (glAv l).soft = glAv l := by
 cases l with
 | nil => rw [glAv]; exact ⟨rfl, rfl, rfl, rfl, rfl, rfl⟩
 | cons g l => obtain ⟨⟨k, n, s, ts⟩, cut, up⟩ := g; rw [glAv_cons]; exact ⟨rfl, rfl, rfl, rfl, rfl, rfl⟩
abbrev tf_T1_148 := zi tI_3 (zi zI_3 (zi underlying3 (zi tI_31 (zi zI_31 (zi eI_31 (zi eB_31 (zi eZ_31 (zi underlying31 (zi tI_42 (zi zI_42 (zi fI_42_0 (zi fI_42_1 (zi fI_42_2 (zi fI_42_3 (zi bI_42 (zi tI_167 (zi zI_167 (zi tI_199 (zi zI_199 (zi fI_199_0 (zi fI_199_1 (zi fI_199_2 (zi fI_199_3 bI_199)))))))))))))))))))))))
theorem c_put (bd : List Tm) (cut : Nat) (up : Int) (rest : List IG) (hl : bd.length ≤ 1048576) (st : zy7) :
 zq7 prog 148 [.slice (bd.map Tm.av), .int .i64 (cut : Int), .int .i64 up, glAv rest] st (fun r st' => r = glAv (bd.map (fun t => (⟨t, cut, up⟩ : IG)) ++ rest) ∧ st' = st) := by
 obtain ⟨r1, r2, r3, r4, r5, r6⟩ := glAv_facts rest
 refine zq7.done ?_
 refine wF [1000000] 4 func148 ntmps148 rfl rfl ?_
 intro _
 have hw0 := wrap64 (n := (bd.length : Int) - 1) (by omega) (by omega)
 simp -implicitDefEqProofs only [List.length_map, r1, r2, r3, r4, r5, hw0, evF, ↓evZ, implies_true, seval, tf_T1_148]
 refine zw5 (σ := Nat) [1000000] [0, 1, 2, 8] (fun j => j ≤ bd.length) (fun j => [(3, glAv ((bd.drop j).map (fun t => (⟨t, cut, up⟩ : IG)) ++ rest)), (9, .int .i64 ((j : Int) - 1))]) (fun _ => st) (fun j => j) (by decide +kernel) ⟨bd.length, Nat.le_refl _, zx7.mk (by simp -implicitDefEqProofs only [List.drop_length, List.map_nil, List.nil_append, List.length_map, r1, r2, r3, r4, r5, hw0, evF, ↓evZ, implies_true, seval, tf_T1_148])⟩ ?_
 intro j hj
 cases j with
 | zero =>
  rw [List.drop_zero]
  obtain ⟨s1, s2, s3, s4, s5, s6⟩ := glAv_facts (bd.map (fun t => (⟨t, cut, up⟩ : IG)) ++ rest)
  simp -implicitDefEqProofs only [List.length_map, s1, s2, s3, s4, s5, evE, ↓evZ2, ↓evZ3, ↓Int.cast_ofNat_Int, implies_true, zy2, aFn, List.contains, List.elem, zq3, zy1, zq2, sub, zx3, zw2, zw3, zy3, gd, zq1, zw0, zq0, zx0, zx2, zx1, zy0, zw1, List.range', ↓reduceIte, reduceCtorEq, Nat.reduceEqDiff, Nat.reduceAdd, Nat.reduceLeDiff, Nat.reduceMul, Nat.reduceLT, Nat.reduceBEq, Int.reduceEq, tf_T1_148]
  refine zq4 (fun h => absurd h (by simp)) (fun h => ?_)
  simp -implicitDefEqProofs only [List.length_map, s1, s2, s3, s4, s5, evF, ↓evZ, implies_true, seval, tf_T1_148]
  exact ⟨s6, Drops.refl _⟩
 | succ j =>
 obtain ⟨s1, s2, s3, s4, s5, s6⟩ := glAv_facts ((bd.drop (j + 1)).map (fun t => (⟨t, cut, up⟩ : IG)) ++ rest)
 obtain ⟨x, hx⟩ : ∃ x, bd[j]? = some x := ⟨_, List.getElem?_eq_getElem (by omega)⟩
 have hat := ev_at (av := Tm.av) (P := prog) eI_31 hx (Tm.av_width x)
 have hdr : bd.drop j = x :: bd.drop (j + 1) := by
  obtain ⟨h1, h2⟩ := List.getElem?_eq_some_iff.1 hx
  rw [List.drop_eq_getElem_cons h1, h2]
 have hc : ((j + 1 : Nat) : Int) - 1 = (j : Int) := by omega
 have hw := wrap64 (n := (j : Int) - 1) (by omega) (by omega)
 have hnx : glAv ((bd.drop j).map (fun t => (⟨t, cut, up⟩ : IG)) ++ rest) = .pptr (.agg (x.av.cells ++ [.int .i64 (cut : Int), .int .i64 up, glAv ((bd.drop (j + 1)).map (fun t => (⟨t, cut, up⟩ : IG)) ++ rest)])) := by
  rw [hdr]
  obtain ⟨k, n, s, ts⟩ := x
  rw [List.map_cons, List.cons_append, glAv_cons, Tm.av_mk]
  rfl
 generalize glAv ((bd.drop (j + 1)).map (fun t => (⟨t, cut, up⟩ : IG)) ++ rest) = A at *
 obtain ⟨k, n, s, ts⟩ := x
 simp only [Tm.av_mk] at hat hnx
 rw [hc]
 simp -implicitDefEqProofs only [List.length_map, s1, s2, s3, s4, s5, hat, hw, evF, ↓evZ, implies_true, seval, tf_T1_148]
 refine zq4 (fun h => ?_) (fun h => absurd h (by simp))
 simp -implicitDefEqProofs only [List.length_map, s1, s2, s3, s4, s5, hat, hw, evF, ↓evZ, implies_true, seval, tf_T1_148]
 trace_state
 refine ⟨j, by omega, by omega, zx7.mk (by rw [hnx]; simp -implicitDefEqProofs only [List.length_map, s1, s2, s3, s4, s5, hat, hw, evF, ↓evZ, implies_true, seval, tf_T1_148])⟩
abbrev tf_T1_186 := zi tI_3 (zi zI_3 underlying3)
theorem c_endOf (c : Int) (st : zy7) : zq7 prog 186 [.int .i64 c] st (fun r st' => r = .int .i64 (endC c) ∧ st' = st) := by
 refine zq7.done ?_
 refine wF [1000000] 1 func186 ntmps186 rfl rfl ?_
 intro _
 simp -implicitDefEqProofs only [evF, ↓evZ, implies_true, seval, tf_T1_186]
 unfold endC
 refine zq4 (fun h => ?_) (fun h => ?_)
 · simp -implicitDefEqProofs only [evF, ↓evZ, implies_true, seval, tf_T1_186]
   have h' : c = 2 := by simpa using h
   exact ⟨by rw [if_pos h']; rfl, Drops.refl _⟩
 rw [if_neg (show ¬ c = 2 by simpa using h)]
 simp -implicitDefEqProofs only [evF, ↓evZ, implies_true, seval, tf_T1_186]
 refine zq4 (fun h => ?_) (fun h => ?_)
 · simp -implicitDefEqProofs only [evF, ↓evZ, implies_true, seval, tf_T1_186]
   have h' : c = 3 := by simpa using h
   exact ⟨by rw [if_pos h']; rfl, Drops.refl _⟩
 rw [if_neg (show ¬ c = 3 by simpa using h)]
 simp -implicitDefEqProofs only [evF, ↓evZ, implies_true, seval, tf_T1_186]
 refine zq4 (fun h => ?_) (fun h => ?_)
 · simp -implicitDefEqProofs only [evF, ↓evZ, implies_true, seval, tf_T1_186]
   have h' : c = 4 := by simpa using h
   exact ⟨by rw [if_pos h']; rfl, Drops.refl _⟩
 rw [if_neg (show ¬ c = 4 by simpa using h)]
 simp -implicitDefEqProofs only [evF, ↓evZ, implies_true, seval, tf_T1_186]
 exact ⟨rfl, Drops.refl _⟩
abbrev tf_T1_124 := zi tI_9 (zi zI_9 (zi underlying9 (zi tI_31 (zi zI_31 (zi eI_31 (zi eB_31 (zi eZ_31 (zi underlying31 (zi tI_42 (zi zI_42 (zi fI_42_0 (zi fI_42_1 (zi fI_42_2 (zi fI_42_3 (zi bI_42 (zi tI_150 (zi zI_150 (zi fI_150_0 (zi fI_150_1 bI_150)))))))))))))))))))
theorem c_pred (k n : Int) (s : ByteArray) (ts : List Tm) (st : zy7) : zq7 prog 124 [(Tm.mk k n s ts).av] st (fun r st' => r = .agg [.str s, .int .i64 (ts.length : Int)] ∧ st' = st) := by
 refine zq7.done ?_
 simp only [Tm.av_mk]
 refine wF [1000000] 1 func124 ntmps124 rfl rfl ?_
 intro _
 simp -implicitDefEqProofs only [zy4, List.length_map, evF, ↓evZ, implies_true, seval, tf_T1_124]
 intro b2 h2
 exact ⟨by simp only [soft_agg, soft_tup, soft_int, soft_bool, soft_str, soft_slice, soft_fslice, soft_ptr, soft_pptr, soft_map, soft_mslice, Tm.soft, List.map_cons, List.map_nil], (Drops.refl _).upd h2⟩
abbrev tf_T1_123 := zi tI_3 (zi zI_3 (zi underlying3 (zi tI_29 (zi zI_29 (zi eI_29 (zi eB_29 (zi eZ_29 (zi underlying29 (zi tI_42 (zi zI_42 (zi fI_42_0 (zi fI_42_1 (zi fI_42_2 (zi fI_42_3 (zi bI_42 (zi tI_58 (zi zI_58 (zi eI_58 (zi eB_58 (zi eZ_58 (zi underlying58 (zi tI_75 (zi zI_75 (zi fI_75_0 (zi fI_75_1 (zi bI_75 (zi tI_150 (zi zI_150 (zi fI_150_0 (zi fI_150_1 bI_150))))))))))))))))))))))))))))))
theorem c_clausesFor (p : List Cl) (t : Tm) (hp : p.length ≤ 1048576) (st : zy7) : zq7 prog 123 [.slice (p.map clAv), .agg [.str t.s, .int .i64 (t.ts.length : Int)]] st (fun r st' => r = .slice ((forL p t).map nv) ∧ st' = st) := by
 rw [forL_eq]
 refine zq7.done ?_
 obtain ⟨tk, tn, ts', tts⟩ := t
 simp only [Tm.s, Tm.ts]
 refine wF [1000000] 2 func123 ntmps123 rfl rfl ?_
 intro _
 simp -implicitDefEqProofs only [List.length_map, evF, ↓evZ, implies_true, seval, tf_T1_123]
 refine zq6 (σ := Unit) [1000000] [3, 4, 8, 9] p 1 5 (fun i _ => ((List.range i).filter (forP p (.mk tk tn ts' tts))).map nv) (fun _ _ => True) (fun i _ => [(10, .int .i64 i)]) (fun _ _ => st) (fun i _ _ e he => by simp only [List.mem_map] at he; obtain ⟨t, _, rfl⟩ := he; exact ⟨rfl, rfl⟩) (by decide +kernel) ⟨(), 0, trivial, fun h => absurd rfl h, zx7.mk (by simp -implicitDefEqProofs only [accV_nil, accS_nil, List.range_zero, List.filter_nil, List.map_nil, List.length_map, evF, ↓evZ, implies_true, seval, tf_T1_123])⟩ (fun i x _ b hx hlt hlt' hdr hinv hb => ?_) (fun _ b hge hinv => ?_)
 case refine_2 =>
  simp -implicitDefEqProofs only [hge, fin_agg, fin_tup, fin_int, fin_bool, fin_str, fin_slice, fin_fslice, fin_pptr, fin_ptr, fin_func, fin_map, fin_undef, fin_accV, tm_fin, List.take_length, List.length_map, evF, ↓evZ, implies_true, seval, tf_T1_123]
  exact ⟨rfl, Drops.refl _⟩
 have hw := wrap64 (n := (i : Int) + 1) (by omega) (by omega)
 have hst := forT_step p (.mk tk tn ts' tts) i
 have hln := forT_len p (.mk tk tn ts' tts) i
 have hat := ev_at (av := clAv) (P := prog) eI_29 hx (clAv_width x)
 obtain ⟨⟨k, n, s', ts⟩, bd⟩ := x
 rw [clAv_mk] at hat
 have hP : forP p (.mk tk tn ts' tts) i = (decide (s' = ts') && decide ((ts.length : Int) = (tts.length : Int))) := by unfold forP; rw [hx]; rfl
 rw [hP] at hst
 have hpr := fun st => c_pred k n s' ts st
 have hesi : aBinT prog .eql 150 (.agg [.str s', .int .i64 (ts.length : Int)]) (.agg [.str ts', .int .i64 (tts.length : Int)]) = some (.bool (decide (s' = ts') && decide ((ts.length : Int) = (tts.length : Int)))) := by
  have h : eqSI prog 150 = true := by kernel_rfl
  simp only [aBinT, h, and_self, if_true]
 simp only [Tm.av_mk] at hpr
 simp -implicitDefEqProofs only [hlt', List.length_map, hat, hw, hesi, evF, ↓evZ, implies_true, seval, tf_T1_123]
 refine wP [(0, 1), (1, 2), (2, 2), (3, 2), (4, 1)] [0, 1, 2, 3, 4] mixed ?_
 simp -implicitDefEqProofs only [List.length_map, hat, hw, hesi, evF, ↓evZ, implies_true, seval, tf_T1_123]
 refine zw4 (hpr _) ?_
 simp -implicitDefEqProofs only [List.length_map, hat, hw, hesi, evF, ↓evZ, implies_true, seval, tf_T1_123]
 refine zq4 (fun h2 => ?_) (fun h2 => ?_)
 · rw [if_pos h2] at hst
   simp -implicitDefEqProofs only [List.length_map, hat, hw, hesi, evF, ↓evZ, implies_true, seval, tf_T1_123]
   refine acc_append eI_58 eB_58 eZ_58 rfl rfl (by intro e he; simp only [List.mem_cons, List.not_mem_nil, or_false] at he; subst he; exact ⟨rfl, rfl⟩) (nv_widths _) hb (by simp only [List.length_map, List.length_cons, List.length_nil]; omega) (by simp only [List.length_map, List.length_cons, List.length_nil]; omega) (fun b' hb' => ?_)
   rw [show ∀ l : List Nat, l.map nv ++ [AV.int .i64 (i : Int)] = (l ++ [i]).map nv from fun l => by simp [nv], ← hst] at hb' ⊢
   simp -implicitDefEqProofs only [List.length_map, hat, hw, hesi, evF, ↓evZ, implies_true, seval, tf_T1_123]
   exact ⟨(), b', hb', zx7.mk (by simp -implicitDefEqProofs only [hw, List.length_map, hat, hw, hesi, evF, ↓evZ, implies_true, seval, tf_T1_123])⟩
 · rw [if_neg (by rw [h2]; simp), List.append_nil] at hst
   rw [← hst] at hb ⊢
   simp -implicitDefEqProofs only [List.length_map, hat, hw, hesi, evF, ↓evZ, implies_true, seval, tf_T1_123]
   exact ⟨(), b, hb, zx7.mk (by simp -implicitDefEqProofs only [hw, List.length_map, hat, hw, hesi, evF, ↓evZ, implies_true, seval, tf_T1_123])⟩
def icAv : IC → AV
 | ⟨.mk k n s ts, node, rest, list, trail, taken⟩ => .agg [.int .i64 k, .int .i64 n, .str s, .slice (ts.map Tm.av), .int .i64 (node : Int), glAv rest, .slice (list.map nv), .int .i64 (trail : Int), .int .i64 (taken : Int)]
theorem icAv_mk (k n : Int) (s : ByteArray) (ts : List Tm) (node : Nat) (rest : List IG) (list : List Nat) (trail taken : Nat) : icAv ⟨.mk k n s ts, node, rest, list, trail, taken⟩ = .agg [.int .i64 k, .int .i64 n, .str s, .slice (ts.map Tm.av), .int .i64 (node : Int), glAv rest, .slice (list.map nv), .int .i64 (trail : Int), .int .i64 (taken : Int)] := rfl
theorem icAv_width (c : IC) : (icAv c).width = 9 := by obtain ⟨⟨k, n, s, ts⟩, _, _, _, _, _⟩ := c; rfl
theorem ic_widths (l : List IC) : ∀ e ∈ l.map icAv, e.width = 9 := by intro e he; simp only [List.mem_map] at he; obtain ⟨t, _, rfl⟩ := he; exact icAv_width t
theorem icAv_store (c : IC) : (icAv c).cells.all AV.storable = true := by
 obtain ⟨⟨k, n, s, ts⟩, _, rest, _, _, _⟩ := c
 rw [icAv_mk]
 have := (glAv_facts rest).2.2.2.2.1
 rw [List.all_eq_true]
 intro e he
 simp only [AV.cells, List.mem_cons, List.not_mem_nil, or_false] at he
 rcases he with rfl | rfl | rfl | rfl | rfl | rfl | rfl | rfl | rfl <;> first | rfl | exact this
def srC (c : Nat) (p : List Cl) (q : List Tm) (idx : Bool) (fuel used fresh : Int) (gl qc qn : AV) (mx : Int) : List AV :=
 [.ptr c 0, .slice (p.map clAv), .slice (q.map Tm.av), .bool idx, .bool false, .int .i64 fuel, .int .i64 used, .int .i64 fresh, gl, qc, qn, .int .i64 mx]
def srO (S c m : Nat) (qt qc qn : AV) : List Nat := [S, c, m] ++ tbk qt ++ ownB qc ++ ownB qn
theorem tbk_ownB (q : AV) : tbk q = ownB q := by cases q <;> rfl
theorem ownB_nodup (q : AV) : (ownB q).Nodup := by cases q <;> simp [ownB]
structure SrA (st0 st : zy7) (S c m : Nat) (qt qc qn : AV) (p : List Cl) (q : List Tm) (idx : Bool) (fuel used mx : Int) (nd : List AV) (i : IS) : Prop where
 cell : st S = some (.cells (srC c p q idx fuel used i.fresh (glAv i.goals) qc qn mx))
 sto : Sto st c m qt i.σ i.tr
 acC : AccW st 9 qc (i.chs.map icAv)
 acN : AccW st 6 qn nd
 ndl : nd.length = i.nn
 ndw : ∀ e ∈ nd, e.width = 6
 dis : (srO S c m qt qc qn).Nodup
 new : ∀ b ∈ srO S c m qt qc qn, st0 b = none
 keep : ∀ b o, st0 b = some o → st b = some o
theorem mem_srO {b S c m : Nat} {qt qc qn : AV} : b ∈ srO S c m qt qc qn ↔ b = S ∨ b = c ∨ b = m ∨ b ∈ tbk qt ∨ b ∈ ownB qc ∨ b ∈ ownB qn := by
 simp only [srO, List.mem_append, List.mem_cons, List.not_mem_nil, or_false, or_assoc]
section
variable {st0 st : zy7} {S c m : Nat} {qt qc qn : AV} {p : List Cl} {q : List Tm} {idx : Bool} {fuel used mx : Int} {nd : List AV} {i : IS}
theorem SrA.held (h : SrA st0 st S c m qt qc qn p q idx fuel used mx nd i) : ∀ b ∈ srO S c m qt qc qn, st b ≠ none := fun b hb => by
 rcases mem_srO.1 hb with rfl | rfl | rfl | hb | hb | hb
 · rw [h.cell]; simp
 · rw [h.sto.sub.cells]; simp
 · rw [h.sto.sub.map]; simp
 · obtain ⟨cs, e⟩ := h.sto.tb_some b hb; rw [e]; simp
 · obtain ⟨cs, e⟩ := h.acC.some b hb; rw [e]; simp
 · obtain ⟨cs, e⟩ := h.acN.some b hb; rw [e]; simp
theorem SrA.drops (h : SrA st0 st S c m qt qc qn p q idx fuel used mx nd i) : Drops st st0 := fun b => by
 refine ⟨fun e => ?_, h.keep b⟩
 cases hb : st0 b with
 | none => rfl
 | some o => rw [h.keep b o hb] at e; cases e
theorem SrA.fresh0 (h : SrA st0 st S c m qt qc qn p q idx fuel used mx nd i) {b : Nat} (hb : st b = none) : st0 b = none := (h.drops b).1 hb
theorem SrA.parts (h : SrA st0 st S c m qt qc qn p q idx fuel used mx nd i) : S ≠ c ∧ S ≠ m ∧ c ≠ m ∧ S ∉ tbk qt ∧ S ∉ ownB qc ∧ S ∉ ownB qn ∧ c ∉ tbk qt ∧ c ∉ ownB qc ∧ c ∉ ownB qn ∧ m ∉ tbk qt ∧ m ∉ ownB qc ∧ m ∉ ownB qn ∧ (∀ b ∈ tbk qt, b ∉ ownB qc ∧ b ∉ ownB qn) ∧ ∀ b ∈ ownB qc, b ∉ ownB qn := by
 have hd := h.dis
 simp only [srO, List.nodup_append, List.nodup_cons, List.mem_cons, List.not_mem_nil, or_false, not_or, List.mem_append] at hd
 obtain ⟨⟨⟨⟨⟨h1, h2⟩, h3, _⟩, h4, h5⟩, h6, h7⟩, h8, h9⟩ := hd
 refine ⟨h1, h2, h3, fun hb => h5 _ (.inl rfl) _ hb rfl, fun hb => h7 _ (.inl (.inl rfl)) _ hb rfl, fun hb => h9 _ (.inl (.inl (.inl rfl))) _ hb rfl,
  fun hb => h5 _ (.inr (.inl rfl)) _ hb rfl, fun hb => h7 _ (.inl (.inr (.inl rfl))) _ hb rfl, fun hb => h9 _ (.inl (.inl (.inr (.inl rfl)))) _ hb rfl,
  fun hb => h5 _ (.inr (.inr rfl)) _ hb rfl, fun hb => h7 _ (.inl (.inr (.inr rfl))) _ hb rfl, fun hb => h9 _ (.inl (.inl (.inr (.inr rfl)))) _ hb rfl,
  fun b hb => ⟨fun h' => h7 b (.inr hb) b h' rfl, fun h' => h9 b (.inl (.inr hb)) b h' rfl⟩, fun b hb h' => h9 b (.inr hb) b h' rfl⟩
theorem nodup_repl {X A A' Y : List Nat} (h : (X ++ A ++ Y).Nodup) (hA : A'.Nodup) (hn : ∀ b ∈ A', b ∈ A ∨ b ∉ X ++ A ++ Y) : (X ++ A' ++ Y).Nodup := by
 simp only [List.nodup_append, List.mem_append] at h ⊢
 obtain ⟨⟨hX, hA0, hXA⟩, hY, hXY⟩ := h
 refine ⟨⟨hX, hA, fun a ha b hb e => ?_⟩, hY, fun a ha b hb e => ?_⟩
 · subst e
   rcases hn a hb with h | h
   · exact hXA a ha a h rfl
   · simp only [List.mem_append, not_or] at h; exact h.1.1 ha
 · subst e
   rcases ha with ha | ha
   · exact hXY a (.inl ha) a hb rfl
   · rcases hn a ha with h | h
     · exact hXY a (.inr h) a hb rfl
     · simp only [List.mem_append, not_or] at h; exact h.2 hb
theorem SrA.go {st' : zy7} {qt' qc' qn' : AV} {fuel' used' mx' : Int} {nd' : List AV} {i' : IS} (h : SrA st0 st S c m qt qc qn p q idx fuel used mx nd i)
 (cell : st' S = some (.cells (srC c p q idx fuel' used' i'.fresh (glAv i'.goals) qc' qn' mx'))) (sto : Sto st' c m qt' i'.σ i'.tr) (acC : AccW st' 9 qc' (i'.chs.map icAv)) (acN : AccW st' 6 qn' nd') (ndl : nd'.length = i'.nn) (ndw : ∀ e ∈ nd', e.width = 6)
 (dis : (srO S c m qt' qc' qn').Nodup) (new : ∀ b ∈ srO S c m qt' qc' qn', b ∈ srO S c m qt qc qn ∨ st b = none) (frame : ∀ b o, st b = some o → b ∉ srO S c m qt qc qn → st' b = some o) :
 SrA st0 st' S c m qt' qc' qn' p q idx fuel' used' mx' nd' i' :=
 ⟨cell, sto, acC, acN, ndl, ndw, dis, fun b hb => by
  rcases new b hb with h1 | h1
  · exact h.new b h1
  · exact h.fresh0 h1, fun b o hb => frame b o (h.keep b o hb) fun hm => by rw [h.new b hm] at hb; cases hb⟩
theorem SrA.put {fuel' used' mx' : Int} {gl : List IG} {F : Nat} {cs : List AV} (h : SrA st0 st S c m qt qc qn p q idx fuel used mx nd i) (hcs : cs = srC c p q idx fuel' used' F (glAv gl) qc qn mx') :
 SrA st0 (st.upd S (.cells cs)) S c m qt qc qn p q idx fuel' used' mx' nd { i with goals := gl, fresh := F } := by
 obtain ⟨h1, h2, h3, h4, h5, h6, _⟩ := h.parts
 subst hcs
 refine h.go (zy7.upd_same _ _ _) (h.sto.upd h1 h2 h4) (h.acC.keep fun b hb => zy7.upd_ne _ _ (by rintro rfl; exact h5 hb)) (h.acN.keep fun b hb => zy7.upd_ne _ _ (by rintro rfl; exact h6 hb)) h.ndl h.ndw h.dis (fun b hb => .inl hb) fun b o hb hn => ?_
 rw [zy7.upd_ne _ _ (by rintro rfl; exact hn (mem_srO.2 (.inl rfl)))]
 exact hb
theorem SrA.turn {st' : zy7} {qt' : AV} {σ' : Sub} {tr' : List Int} (h : SrA st0 st S c m qt qc qn p q idx fuel used mx nd i) (hS : Sto st' c m qt' σ' tr') (hf : ∀ b o, st b = some o → b ≠ c → b ≠ m → b ∉ tbk qt → st' b = some o) (hn : ∀ b ∈ tbk qt', b ∈ tbk qt ∨ st b = none) :
 SrA st0 st' S c m qt' qc qn p q idx fuel used mx nd { i with σ := σ', tr := tr' } := by
 obtain ⟨h1, h2, h3, h4, h5, h6, h7, h8, h9, h10, h11, h12, h13, h14⟩ := h.parts
 have hC : ∀ b ∈ ownB qc, st' b = st b := fun b hb => by
  obtain ⟨cs, e⟩ := h.acC.some b hb
  rw [e, hf b _ e (by rintro rfl; exact h8 hb) (by rintro rfl; exact h11 hb) (fun hb' => (h13 b hb').1 hb)]
 have hN : ∀ b ∈ ownB qn, st' b = st b := fun b hb => by
  obtain ⟨cs, e⟩ := h.acN.some b hb
  rw [e, hf b _ e (by rintro rfl; exact h9 hb) (by rintro rfl; exact h12 hb) (fun hb' => (h13 b hb').2 hb)]
 refine h.go (hf S _ h.cell h1 h2 h4) hS (h.acC.keep hC) (h.acN.keep hN) h.ndl h.ndw ?_ (fun b hb => ?_) (fun b o hb hn' => ?_)
 · have hd := h.dis
   unfold srO at hd ⊢
   rw [List.append_assoc] at hd ⊢
   refine nodup_repl hd (by rw [tbk_ownB]; exact ownB_nodup _) fun b hb => ?_
   rcases hn b hb with h' | h'
   · exact .inl h'
   · refine .inr fun hm => h.held b ?_ h'
     unfold srO; rw [List.append_assoc]; exact hm
 · rcases mem_srO.1 hb with rfl | rfl | rfl | hb | hb | hb
   · exact .inl (mem_srO.2 (.inl rfl))
   · exact .inl (mem_srO.2 (.inr (.inl rfl)))
   · exact .inl (mem_srO.2 (.inr (.inr (.inl rfl))))
   · rcases hn b hb with h' | h'
     · exact .inl (mem_srO.2 (.inr (.inr (.inr (.inl h')))))
     · exact .inr h'
   · exact .inl (mem_srO.2 (.inr (.inr (.inr (.inr (.inl hb))))))
   · exact .inl (mem_srO.2 (.inr (.inr (.inr (.inr (.inr hb))))))
 · have := fun x => hn' (mem_srO.2 x)
   exact hf b o hb (by rintro rfl; exact this (.inr (.inl rfl))) (by rintro rfl; exact this (.inr (.inr (.inl rfl)))) fun hb' => this (.inr (.inr (.inr (.inl hb'))))
theorem SrA.post {st' : zy7} {σ' : Sub} {tr' : List Int} (h : SrA st0 st S c m qt qc qn p q idx fuel used mx nd i) (hP : Post c m st qt σ' tr' st') : ∃ qt', SrA st0 st' S c m qt' qc qn p q idx fuel used mx nd { i with σ := σ', tr := tr' } := by
 obtain ⟨q', hS, hQ⟩ := hP
 exact ⟨q', h.turn hS (fun b o hb h1 h2 h3 => hQ.frame b o hb h1 h2 h3) hQ.fresh⟩
end
theorem Sto.keepS {st st' : zy7} {c m : Nat} {q : AV} {σ : Sub} {tr : List Int} (h : Sto st c m q σ tr) (hc : st' c = st c) (hm : st' m = st m) (ht : ∀ b ∈ tbk q, st' b = st b) : Sto st' c m q σ tr := by
 refine ⟨⟨by rw [hc]; exact h.sub.cells, by rw [hm]; exact h.sub.map⟩, ?_, h.apart⟩
 rcases h.trail with h1 | ⟨b, cs, h1, h2, h3⟩
 · exact .inl h1
 · exact .inr ⟨b, cs, h1, by rw [ht b (by rw [h1]; simp [tbk])]; exact h2, h3⟩
section
variable {st0 st : zy7} {S c m : Nat} {qt qc qn : AV} {p : List Cl} {q : List Tm} {idx : Bool} {fuel used mx : Int} {nd : List AV} {i : IS}
theorem SrA.pushC {st' : zy7} {qc' : AV} {chs' : List IC} {cs : List AV} (h : SrA st0 st S c m qt qc qn p q idx fuel used mx nd i) (hacc : AccW st' 9 qc' (chs'.map icAv)) (hf : ∀ y, y ∉ ownB qc → y ∉ ownB qc' → st' y = st y) (hn : ∀ y ∈ ownB qc', y ∈ ownB qc ∨ st y = none)
 (hcs : cs = srC c p q idx fuel used i.fresh (glAv i.goals) qc' qn mx) : SrA st0 (st'.upd S (.cells cs)) S c m qt qc' qn p q idx fuel used mx nd { i with chs := chs' } := by
 obtain ⟨h1, h2, h3, h4, h5, h6, h7, h8, h9, h10, h11, h12, h13, h14⟩ := h.parts
 have same : ∀ b, st b ≠ none → b ∉ ownB qc → st' b = st b := fun b hb hq => hf b hq fun hq' => by
  rcases hn b hq' with h' | h'
  · exact hq h'
  · exact hb h'
 have hS : S ∉ ownB qc' := fun hb => by
  rcases hn S hb with h' | h'
  · exact h5 h'
  · rw [h.cell] at h'; cases h'
 subst hcs
 have held := fun b x => h.held b (mem_srO.2 x)
 refine h.go (zy7.upd_same _ _ _) (h.sto.keepS ?_ ?_ fun b hb => ?_) (hacc.keep fun b hb => zy7.upd_ne _ _ (by rintro rfl; exact hS hb)) (h.acN.keep fun b hb => ?_) h.ndl h.ndw ?_ (fun b hb => ?_) fun b o hb hn' => ?_
 · rw [zy7.upd_ne _ _ (Ne.symm h1)]; exact same c (held c (.inr (.inl rfl))) h8
 · rw [zy7.upd_ne _ _ (Ne.symm h2)]; exact same m (held m (.inr (.inr (.inl rfl)))) h11
 · rw [zy7.upd_ne _ _ (by rintro rfl; exact h4 hb)]; exact same b (held b (.inr (.inr (.inr (.inl hb))))) (h13 b hb).1
 · rw [zy7.upd_ne _ _ (by rintro rfl; exact h6 hb)]; exact same b (held b (.inr (.inr (.inr (.inr (.inr hb)))))) fun h' => h14 b h' hb
 · have hd := h.dis
   unfold srO at hd ⊢
   refine nodup_repl hd (ownB_nodup _) fun b hb => ?_
   rcases hn b hb with h' | h'
   · exact .inl h'
   · refine .inr fun hm => h.held b ?_ h'
     unfold srO; exact hm
 · rcases mem_srO.1 hb with rfl | rfl | rfl | hb | hb | hb
   · exact .inl (mem_srO.2 (.inl rfl))
   · exact .inl (mem_srO.2 (.inr (.inl rfl)))
   · exact .inl (mem_srO.2 (.inr (.inr (.inl rfl))))
   · exact .inl (mem_srO.2 (.inr (.inr (.inr (.inl hb)))))
   · rcases hn b hb with h' | h'
     · exact .inl (mem_srO.2 (.inr (.inr (.inr (.inr (.inl h'))))))
     · exact .inr h'
   · exact .inl (mem_srO.2 (.inr (.inr (.inr (.inr (.inr hb))))))
 · have hno := fun x => hn' (mem_srO.2 x)
   rw [zy7.upd_ne _ _ (by rintro rfl; exact hno (.inl rfl)), same b (by rw [hb]; simp) fun h' => hno (.inr (.inr (.inr (.inr (.inl h')))))]
   exact hb
theorem SrA.pushN {st' : zy7} {qn' : AV} {nd' : List AV} {n' : Nat} {cs : List AV} (h : SrA st0 st S c m qt qc qn p q idx fuel used mx nd i) (hacc : AccW st' 6 qn' nd') (hl : nd'.length = n') (hw : ∀ e ∈ nd', e.width = 6) (hf : ∀ y, y ∉ ownB qn → y ∉ ownB qn' → st' y = st y) (hn : ∀ y ∈ ownB qn', y ∈ ownB qn ∨ st y = none)
 (hcs : cs = srC c p q idx fuel used i.fresh (glAv i.goals) qc qn' mx) : SrA st0 (st'.upd S (.cells cs)) S c m qt qc qn' p q idx fuel used mx nd' { i with nn := n' } := by
 obtain ⟨h1, h2, h3, h4, h5, h6, h7, h8, h9, h10, h11, h12, h13, h14⟩ := h.parts
 have same : ∀ b, st b ≠ none → b ∉ ownB qn → st' b = st b := fun b hb hq => hf b hq fun hq' => by
  rcases hn b hq' with h' | h'
  · exact hq h'
  · exact hb h'
 have hS : S ∉ ownB qn' := fun hb => by
  rcases hn S hb with h' | h'
  · exact h6 h'
  · rw [h.cell] at h'; cases h'
 subst hcs
 have held := fun b x => h.held b (mem_srO.2 x)
 refine h.go (zy7.upd_same _ _ _) (h.sto.keepS ?_ ?_ fun b hb => ?_) (h.acC.keep fun b hb => ?_) (hacc.keep fun b hb => zy7.upd_ne _ _ (by rintro rfl; exact hS hb)) hl hw ?_ (fun b hb => ?_) fun b o hb hn' => ?_
 · rw [zy7.upd_ne _ _ (Ne.symm h1)]; exact same c (held c (.inr (.inl rfl))) h9
 · rw [zy7.upd_ne _ _ (Ne.symm h2)]; exact same m (held m (.inr (.inr (.inl rfl)))) h12
 · rw [zy7.upd_ne _ _ (by rintro rfl; exact h4 hb)]; exact same b (held b (.inr (.inr (.inr (.inl hb))))) (h13 b hb).2
 · rw [zy7.upd_ne _ _ (by rintro rfl; exact h5 hb)]; exact same b (held b (.inr (.inr (.inr (.inr (.inl hb)))))) (h14 b hb)
 · have hd := h.dis
   unfold srO at hd ⊢
   have := nodup_repl (X := [S, c, m] ++ tbk qt ++ ownB qc) (A := ownB qn) (A' := ownB qn') (Y := []) (by rw [List.append_nil]; exact hd) (ownB_nodup _) fun b hb => by
    rcases hn b hb with h' | h'
    · exact .inl h'
    · refine .inr fun hm => h.held b ?_ h'
      rw [List.append_nil] at hm
      unfold srO; exact hm
   rwa [List.append_nil] at this
 · rcases mem_srO.1 hb with rfl | rfl | rfl | hb | hb | hb
   · exact .inl (mem_srO.2 (.inl rfl))
   · exact .inl (mem_srO.2 (.inr (.inl rfl)))
   · exact .inl (mem_srO.2 (.inr (.inr (.inl rfl))))
   · exact .inl (mem_srO.2 (.inr (.inr (.inr (.inl hb)))))
   · exact .inl (mem_srO.2 (.inr (.inr (.inr (.inr (.inl hb))))))
   · rcases hn b hb with h' | h'
     · exact .inl (mem_srO.2 (.inr (.inr (.inr (.inr (.inr h'))))))
     · exact .inr h'
 · have hno := fun x => hn' (mem_srO.2 x)
   rw [zy7.upd_ne _ _ (by rintro rfl; exact hno (.inl rfl)), same b (by rw [hb]; simp) fun h' => hno (.inr (.inr (.inr (.inr (.inr h')))))]
   exact hb
theorem SrA.nodes {k : Nat} (h : SrA st0 st S c m qt qc qn p q idx fuel used mx nd i) (hk : k < i.nn) : ∃ b, qn = .mslice b 0 nd.length 6 := by
 have hl := h.ndl
 rcases h.acN with ⟨_, e⟩ | ⟨b, cs, e, _⟩
 · subst e; simp at hl; omega
 · exact ⟨b, e⟩
theorem SrA.nodeAt {b n : Nat} (h : SrA st0 st S c m qt qc (.mslice b 0 n 6) p q idx fuel used mx nd i) : ∃ cs, st b = some (.cells cs) ∧ nd.length * 6 ≤ cs.length := by
 rcases h.acN with ⟨e, _⟩ | ⟨b', cs, e, h2, _, h4⟩
 · cases e
 · cases e; exact ⟨cs, h2, h4⟩
theorem six_cells : ∀ (n : Nat) (cs : List AV), cs.length = n * 6 → ∃ nd : List AV, nd.length = n ∧ (∀ e ∈ nd, e.width = 6) ∧ nd.flatMap AV.cells = cs
 | 0, cs, h => ⟨[], rfl, by simp, by have : cs = [] := List.eq_nil_of_length_eq_zero (by simpa using h); subst this; rfl⟩
 | n + 1, cs, h => by
  obtain ⟨nd, h1, h2, h3⟩ := six_cells n (cs.drop 6) (by rw [List.length_drop, h]; omega)
  refine ⟨.agg (cs.take 6) :: nd, by simp [h1], fun e he => ?_, ?_⟩
  · rcases List.mem_cons.1 he with rfl | he
    · show (cs.take 6).length = 6
      rw [List.length_take, h]; omega
    · exact h2 e he
  · rw [List.flatMap_cons, h3]
    exact List.take_append_drop 6 cs
theorem SrA.setN {b k : Nat} {cs : List AV} {x : AV} (h : SrA st0 st S c m qt qc qn p q idx fuel used mx nd i) (hq : qn = .mslice b 0 nd.length 6) (hb : st b = some (.cells cs)) (hk : k < nd.length * 6) :
 ∃ nd', SrA st0 (st.upd b (.cells (zy4 cs k [x]))) S c m qt qc qn p q idx fuel used mx nd' i := by
 obtain ⟨h1, h2, h3, h4, h5, h6, h7, h8, h9, h10, h11, h12, h13, h14⟩ := h.parts
 have hbq : b ∈ ownB qn := by rw [hq]; simp [ownB]
 have hne : ∀ a, a ∉ ownB qn → st.upd b (.cells (zy4 cs k [x])) a = st a := fun a ha => zy7.upd_ne _ _ (by rintro rfl; exact ha hbq)
 have hcl : nd.length * 6 ≤ cs.length := by
  rcases h.acN with ⟨e, _⟩ | ⟨b', cs', e1, e2, e3, e4⟩
  · rw [hq] at e; cases e
  · rw [hq] at e1
    cases e1
    rw [hb] at e2; cases e2
    exact e4
 have hlen : (zy4 cs k [x]).length = cs.length := by
  simp only [zy4, List.length_append, List.length_take, List.length_drop, List.length_cons, List.length_nil]
  omega
 obtain ⟨nd', n1, n2, n3⟩ := six_cells nd.length ((zy4 cs k [x]).take (nd.length * 6)) (by rw [List.length_take, hlen]; omega)
 refine ⟨nd', h.go (by rw [hne S h6]; exact h.cell) (h.sto.keepS (hne c h9) (hne m h12) fun b hb => hne b (h13 b hb).2) (h.acC.keep fun b hb => hne b (h14 b hb)) (.inr ⟨b, _, by rw [hq, n1], zy7.upd_same _ _ _, by rw [n1, n3], by rw [n1, hlen]; exact hcl⟩) (by rw [n1]; exact h.ndl) n2 h.dis (fun b hb => .inl hb) fun a o ha hn => ?_⟩
 rw [hne a fun h' => hn (mem_srO.2 (.inr (.inr (.inr (.inr (.inr h'))))))]
 exact ha
end
theorem slice_accW {φ : AF} {t : TypeId} {ag : Bool} {w d k : Nat} {st : zy7} {qc : AV} {l : List AV} (hI : eI prog t = some (ag, w)) (hA : AccW st w qc l) (h : φ d = .int .i64 (k : Int)) (hk : k ≤ l.length) : aSlice prog φ t qc none (some (.tmp d)) none = some (cutQ k qc) := by
 rcases hA with ⟨rfl, rfl⟩ | ⟨b, cs, rfl, _⟩
 · have h0 : k = 0 := by simpa using hk
   subst h0
   exact slice_hiF hI h
 · exact slice_hiW hI h hk
section
variable {st0 st : zy7} {S c m : Nat} {qt qc qn : AV} {p : List Cl} {q : List Tm} {idx : Bool} {fuel used mx : Int} {nd : List AV} {i : IS}
theorem SrA.cutC {k : Nat} {cs : List AV} {gl : List IG} (h : SrA st0 st S c m qt qc qn p q idx fuel used mx nd i) (hk : k ≤ i.chs.length) (hcs : cs = srC c p q idx fuel used i.fresh (glAv gl) (cutQ k qc) qn mx) :
 SrA st0 (st.upd S (.cells cs)) S c m qt (cutQ k qc) qn p q idx fuel used mx nd { i with goals := gl, chs := i.chs.take k } := by
 obtain ⟨h1, h2, h3, h4, h5, h6, _⟩ := h.parts
 subst hcs
 have hA := h.acC.take (k := k) (by rw [List.length_map]; exact hk) (ic_widths _)
 rw [← List.map_take] at hA
 refine h.go (zy7.upd_same _ _ _) (h.sto.upd h1 h2 h4) (hA.keep fun b hb => zy7.upd_ne _ _ (by rw [ownB_cutQ] at hb; rintro rfl; exact h5 hb)) (h.acN.keep fun b hb => zy7.upd_ne _ _ (by rintro rfl; exact h6 hb)) h.ndl h.ndw (by unfold srO; rw [ownB_cutQ]; exact h.dis) (fun b hb => .inl (by unfold srO at hb; rw [ownB_cutQ] at hb; exact hb)) fun b o hb hn => ?_
 rw [zy7.upd_ne _ _ (by rintro rfl; exact hn (mem_srO.2 (.inl rfl)))]
 exact hb
theorem SrA.cutN {k : Nat} {cs : List AV} (h : SrA st0 st S c m qt qc qn p q idx fuel used mx nd i) (hk : k ≤ i.nn) (hcs : cs = srC c p q idx fuel used i.fresh (glAv i.goals) qc (cutQ k qn) mx) :
 SrA st0 (st.upd S (.cells cs)) S c m qt qc (cutQ k qn) p q idx fuel used mx (nd.take k) { i with nn := k } := by
 obtain ⟨h1, h2, h3, h4, h5, h6, _⟩ := h.parts
 subst hcs
 have hnl := h.ndl
 have hA := h.acN.take (k := k) (by rw [hnl]; exact hk) h.ndw
 refine h.go (zy7.upd_same _ _ _) (h.sto.upd h1 h2 h4) (h.acC.keep fun b hb => zy7.upd_ne _ _ (by rintro rfl; exact h5 hb)) (hA.keep fun b hb => zy7.upd_ne _ _ (by rw [ownB_cutQ] at hb; rintro rfl; exact h6 hb)) (by rw [List.length_take, hnl]; simp only; omega) (fun e he => h.ndw e (List.mem_of_mem_take he)) (by unfold srO; rw [ownB_cutQ]; exact h.dis) (fun b hb => .inl (by unfold srO at hb; rw [ownB_cutQ] at hb; exact hb)) fun b o hb hn => ?_
 rw [zy7.upd_ne _ _ (by rintro rfl; exact hn (mem_srO.2 (.inl rfl)))]
 exact hb
end
def CallG (c m : Nat) (st : zy7) (q : AV) (tr : List Int) (x : Int × Sub × List Int) (r : AV) (st' : zy7) : Prop := r = .int .i64 x.1 ∧ Post c m st q x.2.1 (tr ++ x.2.2) st'
theorem CallG.same {c m : Nat} {st : zy7} {q : AV} {σ : Sub} {tr : List Int} (h : Sto st c m q σ tr) {r : AV} (k : Int) (hr : r = .int .i64 k) : CallG c m st q tr (k, σ, []) r st := ⟨hr, q, by rw [List.append_nil]; exact h, StepQ.refl _ _ _ _⟩
theorem Sto.trailLen {P : Program} {t e : TypeId} {st : zy7} {c m : Nat} {q : AV} {σ : Sub} {tr : List Int} (h : Sto st c m q σ tr) (hu : P.underlying t = some (.slice e)) : aLen P t q = some (.int .i64 (tr.length : Int)) := by
 rcases h.trail with ⟨rfl, rfl⟩ | ⟨b, cs, rfl, _⟩ <;> simp only [aLen, hu, List.length_nil]
theorem c_unifyG {N : Nat} {σ : Sub} (hg : IsGood σ) (ho : AllS (OkX N) σ) (a b : Tm) (ha : OkX N a) (hb : OkX N b) (c m : Nat) (q : AV) (tr : List Int) (st : zy7) (hS : Sto st c m q σ tr) (hl : tr.length + N ≤ 1099511627776) :
 zq7 prog 52 [.ptr c 0, a.av, b.av] st (fun r st' => r = .bool (uniG σ a b).1 ∧ Post c m st q (uniG σ a b).2.1 (tr ++ (uniG σ a b).2.2) st') := by
 obtain ⟨r, σ', tr', hU⟩ := uniG_of hg ho ha hb
 obtain ⟨g, hrun⟩ := hU.run
 have hlen := nodup_VN hU.uni.nodup hU.inN
 rw [hU.eq]
 exact c_unify g σ a b r σ' tr' hg (ho.imp fun t ht => ht.1.small) ha.1.small hb.1.small hrun c m q tr st hS (by omega)
abbrev tf_Cg_185 := zi tI_3 (zi zI_3 (zi underlying3 (zi tI_4 (zi zI_4 (zi underlying4 (zi tI_9 (zi zI_9 (zi underlying9 (zi tI_31 (zi zI_31 (zi eI_31 (zi eB_31 (zi eZ_31 (zi underlying31 (zi tI_42 (zi zI_42 (zi fI_42_0 (zi fI_42_1 (zi fI_42_2 (zi fI_42_3 (zi bI_42 (zi tI_58 (zi zI_58 (zi eI_58 (zi eB_58 (zi eZ_58 (zi underlying58 (zi tI_85 (zi zI_85 (zi tI_128 (zi zI_128 (zi fI_128_0 (zi fI_128_1 bI_128)))))))))))))))))))))))))))))))))
theorem c_callG {N : Nat} {σ : Sub} (hg : IsGood σ) (ho : AllS (OkX N) σ) (n : Int) (s : ByteArray) (ks : List Tm) (hb : isBuiltin s (ks.length : Int) = true) (hv : ∀ x ∈ ks, OkX N x) (c m : Nat) (q : AV) (tr : List Int) (st : zy7) (hS : Sto st c m q σ tr) (hl : tr.length + N ≤ 1099511627776) :
 zq7 prog 185 [.ptr c 0, (Tm.mk 3 n s ks).av] st (CallG c m st q tr (solveG σ s ks)) := by
 have hcmp := c_compares 3 n s ks
 have hcs := bi_cases hb
 have hcpd := fun x y (hxy : ks = [x, y]) h => c_compared n s x y h (hv x (by simp [hxy])).1 (hv y (by simp [hxy])).1
 simp only [Tm.av_mk] at hcmp hcpd ⊢
 refine wF [1000000] 2 func185 ntmps185 rfl rfl ?_
 intro _
 simp -implicitDefEqProofs only [List.length_map, evF, ↓evZ, implies_true, seval, tf_Cg_185]
 refine (hcmp _).to ?_
 simp -implicitDefEqProofs only [List.length_map, evF, ↓evZ, implies_true, seval, tf_Cg_185]
 refine zq4 (fun h => ?_) (fun h => ?_)
 · have h' : ks.length = 2 ∧ inN cmpNames s = true := by simp at h; exact ⟨by omega, h.2⟩
   obtain ⟨x, y, rfl⟩ := kids2 h'.1
   have e : solveG σ s [x, y] = (cmpC s x y, σ, []) := by simp only [solveG]; rw [if_pos h'.2]
   rw [e]
   have hc := hcpd x y rfl h'.2
   simp only [List.map_cons, List.map_nil] at hc
   simp -implicitDefEqProofs only [List.length_map, evF, ↓evZ, implies_true, seval, tf_Cg_185]
   refine (hc _).to ?_
   simp -implicitDefEqProofs only [List.length_map, evF, ↓evZ, implies_true, seval, tf_Cg_185]
   exact CallG.same hS _ rfl
 have hnc : ks.length = 2 → inN cmpNames s = false := fun h2 => by simpa [h2] using h
 clear hcmp hcpd h
 simp -implicitDefEqProofs only [List.length_map, evF, ↓evZ, implies_true, seval, tf_Cg_185]
 refine zq4 (fun h => ?_) (fun h => ?_)
 · have hs : s = ⟨#[116, 114, 117, 101]⟩ := by simpa using h
   have hk := kids0 (ts := ks) (by subst hs; simpa [isBuiltin] using hb)
   subst hk
   simp -implicitDefEqProofs only [List.length_map, evF, ↓evZ, implies_true, seval, tf_Cg_185]
   exact CallG.same hS _ (by simp [codeB, hs])
 have ht : s ≠ ⟨#[116, 114, 117, 101]⟩ := by simpa using h
 simp -implicitDefEqProofs only [List.length_map, evF, ↓evZ, implies_true, seval, tf_Cg_185]
 refine zq4 (fun h => ?_) (fun h => ?_)
 · have hs : s = ⟨#[102, 97, 105, 108]⟩ := by simpa using h
   have hk := kids0 (ts := ks) (by subst hs; simpa [isBuiltin] using hb)
   subst hk
   simp -implicitDefEqProofs only [List.length_map, evF, ↓evZ, implies_true, seval, tf_Cg_185]
   exact CallG.same hS _ (by simp [codeB, hs])
 have hf : s ≠ ⟨#[102, 97, 105, 108]⟩ := by simpa using h
 simp -implicitDefEqProofs only [List.length_map, evF, ↓evZ, implies_true, seval, tf_Cg_185]
 refine zq4 (fun h => ?_) (fun h => ?_)
 · have hs : s = ⟨#[61]⟩ := by simpa using h
   obtain ⟨x, y, rfl⟩ := kids2 (ts := ks) (by subst hs; simp [isBuiltin] at hb; omega)
   have e : solveG σ s [x, y] = uniCG σ x y := by simp only [solveG]; rw [if_neg (by rw [hnc rfl]; simp), if_pos hs]
   rw [e]
   have hat0 : aIndexAddr prog 31 (.slice [x.av, y.av]) (.int .i64 0) = some (.pptr x.av) := ev_at (av := Tm.av) (l := [x, y]) (i := 0) eI_31 rfl (Tm.av_width x)
   have hat1 : aIndexAddr prog 31 (.slice [x.av, y.av]) (.int .i64 1) = some (.pptr y.av) := ev_at (av := Tm.av) (l := [x, y]) (i := 1) eI_31 rfl (Tm.av_width y)
   simp -implicitDefEqProofs only [hat0, hat1, Tm.av_agg, Tm.av_width, evF, ↓evZ, implies_true, seval, tf_Cg_185]
   refine wX [(0, 1), (1, 1), (2, 1), (3, 1), (4, 1), (5, 1), (6, 1), (7, 0), (8, 0), (9, 1)] [0, 1, 2, 3, 4, 5, 6, 9] none0' mixed rfl ext_none ?_
   simp -implicitDefEqProofs only [hat0, hat1, Tm.av_agg, Tm.av_width, evF, ↓evZ, implies_true, seval, tf_Cg_185]
   refine (c_unifyG hg ho x y (hv x (by simp)) (hv y (by simp)) c m q tr _ hS hl).mono ?_
   rintro _ s2 ⟨rfl, hP⟩
   simp -implicitDefEqProofs only [hat0, hat1, Tm.av_agg, Tm.av_width, evF, ↓evZ, implies_true, seval, tf_Cg_185]
   refine ⟨ext_none, ?_⟩
   refine (c_holds _ _).to ?_
   simp -implicitDefEqProofs only [hat0, hat1, Tm.av_agg, Tm.av_width, evF, ↓evZ, implies_true, seval, tf_Cg_185]
   exact ⟨ext_none, rfl, hP⟩
 have he : s ≠ ⟨#[61]⟩ := by simpa using h
 simp -implicitDefEqProofs only [List.length_map, evF, ↓evZ, implies_true, seval, tf_Cg_185]
 refine zq4 (fun h => ?_) (fun h => ?_)
 · have hs : s = ⟨#[92, 61]⟩ := by simpa using h
   obtain ⟨x, y, rfl⟩ := kids2 (ts := ks) (by subst hs; simp [isBuiltin] at hb; omega)
   have e : solveG σ s [x, y] = (codeB (!(uniG σ x y).1), σ, []) := by simp only [solveG]; rw [if_neg (by rw [hnc rfl]; simp), if_neg he, if_pos hs]
   rw [e]
   have e1 := hS.sub.cells
   have hql := hS.trailLen underlying58
   obtain ⟨hqa, hqw, hqj, hqc, hqs⟩ := hS.shape
   have hat0 : aIndexAddr prog 31 (.slice [x.av, y.av]) (.int .i64 0) = some (.pptr x.av) := ev_at (av := Tm.av) (l := [x, y]) (i := 0) eI_31 rfl (Tm.av_width x)
   have hat1 : aIndexAddr prog 31 (.slice [x.av, y.av]) (.int .i64 1) = some (.pptr y.av) := ev_at (av := Tm.av) (l := [x, y]) (i := 1) eI_31 rfl (Tm.av_width y)
   simp -implicitDefEqProofs only [hat0, hat1, Tm.av_agg, Tm.av_width, e1, hql, hqa, hqw, hqj, evF, ↓evZ, implies_true, seval, tf_Cg_185]
   refine wX [(0, 1), (1, 1), (2, 1), (3, 1), (4, 1), (5, 1), (6, 1), (7, 0), (8, 1)] [0, 1, 2, 3, 4, 5, 6, 8] none0' mixed rfl ext_none ?_
   simp -implicitDefEqProofs only [hat0, hat1, Tm.av_agg, Tm.av_width, e1, hql, hqa, hqw, hqj, evF, ↓evZ, implies_true, seval, tf_Cg_185]
   refine (c_unifyG hg ho x y (hv x (by simp)) (hv y (by simp)) c m q tr _ hS hl).mono ?_
   rintro _ s2 ⟨rfl, hP⟩
   obtain ⟨r, σ', add, hU⟩ := uniG_of hg ho (hv x (by simp)) (hv y (by simp))
   rw [hU.eq] at hP ⊢
   obtain ⟨q', hS2, hQ2⟩ := hP
   have hadd := nodup_VN hU.uni.nodup hU.inN
   simp -implicitDefEqProofs only [hat0, hat1, Tm.av_agg, Tm.av_width, e1, hql, hqa, hqw, hqj, evF, ↓evZ, implies_true, seval, tf_Cg_185]
   refine ⟨ext_none, ?_⟩
   refine (c_undoG σ' (tr ++ add) tr.length (by simp) c m q' s2 hS2 (by rw [List.length_append]; omega)).mono ?_
   rintro _ s3 ⟨rfl, q2, hS3, hb3, hk3⟩
   rw [List.drop_left, List.take_left, show σ'.out add = σ from funext fun n => hU.out n] at hS3
   simp -implicitDefEqProofs only [hat0, hat1, Tm.av_agg, Tm.av_width, e1, hql, hqa, hqw, hqj, evF, ↓evZ, implies_true, seval, tf_Cg_185]
   refine (c_holds _ _).to ?_
   simp -implicitDefEqProofs only [hat0, hat1, Tm.av_agg, Tm.av_width, e1, hql, hqa, hqw, hqj, evF, ↓evZ, implies_true, seval, tf_Cg_185]
   refine ⟨rfl, q2, by rw [List.append_nil]; exact hS3, fun b o h h1 h2 h3 => hk3 b o (hQ2.frame b o h h1 h2 h3) h1 h2, fun b hb' => hQ2.fresh b (hb3 b hb')⟩
 have hne : s ≠ ⟨#[92, 61]⟩ := by simpa using h
 simp -implicitDefEqProofs only [List.length_map, evF, ↓evZ, implies_true, seval, tf_Cg_185]
 refine zq4 (fun h => ?_) (fun h => ?_)
 · have hs : s = ⟨#[61, 61]⟩ := by simpa using h
   obtain ⟨x, y, rfl⟩ := kids2 (ts := ks) (by subst hs; simp [isBuiltin] at hb; omega)
   have e : solveG σ s [x, y] = (codeB (x.same y), σ, []) := by simp only [solveG]; rw [if_neg (by rw [hnc rfl]; simp), if_neg he, if_neg hne, if_pos hs]
   rw [e]
   have hat0 : aIndexAddr prog 31 (.slice [x.av, y.av]) (.int .i64 0) = some (.pptr x.av) := ev_at (av := Tm.av) (l := [x, y]) (i := 0) eI_31 rfl (Tm.av_width x)
   have hat1 : aIndexAddr prog 31 (.slice [x.av, y.av]) (.int .i64 1) = some (.pptr y.av) := ev_at (av := Tm.av) (l := [x, y]) (i := 1) eI_31 rfl (Tm.av_width y)
   simp -implicitDefEqProofs only [hat0, hat1, Tm.av_agg, Tm.av_width, evF, ↓evZ, implies_true, seval, tf_Cg_185]
   refine arun_drawA mixed (by decide +kernel) (by decide +kernel) ?_
   simp -implicitDefEqProofs only [hat0, hat1, Tm.av_agg, Tm.av_width, evF, ↓evZ, implies_true, seval, tf_Cg_185]
   refine zw4 (c_impl_TermSame x y _) ?_
   simp -implicitDefEqProofs only [hat0, hat1, Tm.av_agg, Tm.av_width, evF, ↓evZ, implies_true, seval, tf_Cg_185]
   refine zw4 (c_holds _ _) ?_
   simp -implicitDefEqProofs only [hat0, hat1, Tm.av_agg, Tm.av_width, evF, ↓evZ, implies_true, seval, tf_Cg_185]
   exact CallG.same hS _ rfl
 have hee : s ≠ ⟨#[61, 61]⟩ := by simpa using h
 simp -implicitDefEqProofs only [List.length_map, evF, ↓evZ, implies_true, seval, tf_Cg_185]
 refine zq4 (fun h => ?_) (fun h => ?_)
 · have hs : s = ⟨#[105, 115]⟩ := by simpa using h
   obtain ⟨x, y, rfl⟩ := kids2 (ts := ks) (by subst hs; simp [isBuiltin] at hb; omega)
   have e : solveG σ s [x, y] = if y.ev.2 ≠ 0 then (y.ev.2, σ, []) else uniCG σ x (itm y.ev.1) := by simp only [solveG]; rw [if_neg (by rw [hnc rfl]; simp), if_neg he, if_neg hne, if_neg hee]
   rw [e]
   have hy := hv y (by simp)
   have hin := itm_okX (N := N) (Tm.ev_in y hy.1)
   have har := fun st => c_arith y st hy.1
   generalize y.ev.1 = a at *
   generalize y.ev.2 = ca at *
   have hat0 : aIndexAddr prog 31 (.slice [x.av, y.av]) (.int .i64 0) = some (.pptr x.av) := ev_at (av := Tm.av) (l := [x, y]) (i := 0) eI_31 rfl (Tm.av_width x)
   have hat1 : aIndexAddr prog 31 (.slice [x.av, y.av]) (.int .i64 1) = some (.pptr y.av) := ev_at (av := Tm.av) (l := [x, y]) (i := 1) eI_31 rfl (Tm.av_width y)
   simp -implicitDefEqProofs only [hat0, hat1, Tm.av_agg, Tm.av_width, evF, ↓evZ, implies_true, seval, tf_Cg_185]
   refine (har _).to ?_
   simp -implicitDefEqProofs only [hat0, hat1, Tm.av_agg, Tm.av_width, evF, ↓evZ, implies_true, seval, tf_Cg_185]
   refine zq4 (fun h4 => ?_) (fun h4 => ?_)
   · simp -implicitDefEqProofs only [hat0, hat1, Tm.av_agg, Tm.av_width, evF, ↓evZ, implies_true, seval, tf_Cg_185]
     have h4' : ca ≠ 0 := by simpa using h4
     rw [if_pos h4']
     exact CallG.same hS _ rfl
   have h4' : ca = 0 := by simpa using h4
   subst h4'
   rw [if_neg (by simp)]
   simp -implicitDefEqProofs only [hat0, hat1, Tm.av_agg, Tm.av_width, evF, ↓evZ, implies_true, seval, tf_Cg_185]
   refine wX [(0, 1), (1, 1), (2, 1), (3, 1), (4, 1), (5, 0), (6, 0), (7, 0), (8, 1)] [0, 1, 2, 3, 4, 8] none0' mixed rfl ext_none ?_
   simp -implicitDefEqProofs only [hat0, hat1, Tm.av_agg, Tm.av_width, evF, ↓evZ, implies_true, seval, tf_Cg_185]
   refine (c_number a _).to ?_
   simp -implicitDefEqProofs only [hat0, hat1, Tm.av_agg, Tm.av_width, evF, ↓evZ, implies_true, seval, tf_Cg_185]
   refine ⟨ext_none, ?_⟩
   refine (c_unifyG hg ho x (itm a) (hv x (by simp)) hin c m q tr _ hS hl).mono ?_
   rintro _ s2 ⟨rfl, hP⟩
   simp -implicitDefEqProofs only [hat0, hat1, Tm.av_agg, Tm.av_width, evF, ↓evZ, implies_true, seval, tf_Cg_185]
   refine ⟨ext_none, ?_⟩
   refine (c_holds _ _).to ?_
   simp -implicitDefEqProofs only [hat0, hat1, Tm.av_agg, Tm.av_width, evF, ↓evZ, implies_true, seval, tf_Cg_185]
   exact ⟨ext_none, rfl, hP⟩
 have his : s ≠ ⟨#[105, 115]⟩ := by simpa using h
 simp -implicitDefEqProofs only [List.length_map, evF, ↓evZ, implies_true, seval, tf_Cg_185]
 refine zq4 (fun h => ?_) (fun h => ?_)
 · have hs : s = ⟨#[118, 97, 114]⟩ := by simpa using h
   obtain ⟨x, rfl⟩ := kids1 (ts := ks) (by subst hs; simp [isBuiltin] at hb; omega)
   have e : solveG σ s [x] = (codeB (testB s x), σ, []) := rfl
   rw [e]
   subst hs
   obtain ⟨xk, xn, xs, xt⟩ := x
   have hat0 : aIndexAddr prog 31 (.slice [(Tm.mk xk xn xs xt).av]) (.int .i64 0) = some (.pptr (Tm.mk xk xn xs xt).av) := ev_at (av := Tm.av) (l := [Tm.mk xk xn xs xt]) (i := 0) eI_31 rfl (Tm.av_width _)
   have eat := c_isAtom xk xn xs xt
   simp only [Tm.av_mk] at hat0 eat
   simp only [List.map_cons, List.map_nil, Tm.av_mk]
   simp -implicitDefEqProofs only [hat0, evF, ↓evZ, implies_true, seval, tf_Cg_185]
   refine (c_holds _ _).to ?_
   simp -implicitDefEqProofs only [hat0, evF, ↓evZ, implies_true, seval, tf_Cg_185]
   exact CallG.same hS _ rfl
 have hva : s ≠ ⟨#[118, 97, 114]⟩ := by simpa using h
 simp -implicitDefEqProofs only [List.length_map, evF, ↓evZ, implies_true, seval, tf_Cg_185]
 refine zq4 (fun h => ?_) (fun h => ?_)
 · have hs : s = ⟨#[110, 111, 110, 118, 97, 114]⟩ := by simpa using h
   obtain ⟨x, rfl⟩ := kids1 (ts := ks) (by subst hs; simp [isBuiltin] at hb; omega)
   have e : solveG σ s [x] = (codeB (testB s x), σ, []) := rfl
   rw [e]
   subst hs
   obtain ⟨xk, xn, xs, xt⟩ := x
   have hat0 : aIndexAddr prog 31 (.slice [(Tm.mk xk xn xs xt).av]) (.int .i64 0) = some (.pptr (Tm.mk xk xn xs xt).av) := ev_at (av := Tm.av) (l := [Tm.mk xk xn xs xt]) (i := 0) eI_31 rfl (Tm.av_width _)
   have eat := c_isAtom xk xn xs xt
   simp only [Tm.av_mk] at hat0 eat
   simp only [List.map_cons, List.map_nil, Tm.av_mk]
   simp -implicitDefEqProofs only [hat0, evF, ↓evZ, implies_true, seval, tf_Cg_185]
   refine (c_holds _ _).to ?_
   simp -implicitDefEqProofs only [hat0, evF, ↓evZ, implies_true, seval, tf_Cg_185]
   exact CallG.same hS _ rfl
 have hnv : s ≠ ⟨#[110, 111, 110, 118, 97, 114]⟩ := by simpa using h
 simp -implicitDefEqProofs only [List.length_map, evF, ↓evZ, implies_true, seval, tf_Cg_185]
 refine zq4 (fun h => ?_) (fun h => ?_)
 · have hs : s = ⟨#[97, 116, 111, 109]⟩ := by simpa using h
   obtain ⟨x, rfl⟩ := kids1 (ts := ks) (by subst hs; simp [isBuiltin] at hb; omega)
   have e : solveG σ s [x] = (codeB (testB s x), σ, []) := rfl
   rw [e]
   subst hs
   obtain ⟨xk, xn, xs, xt⟩ := x
   have hat0 : aIndexAddr prog 31 (.slice [(Tm.mk xk xn xs xt).av]) (.int .i64 0) = some (.pptr (Tm.mk xk xn xs xt).av) := ev_at (av := Tm.av) (l := [Tm.mk xk xn xs xt]) (i := 0) eI_31 rfl (Tm.av_width _)
   have eat := c_isAtom xk xn xs xt
   simp only [Tm.av_mk] at hat0 eat
   simp only [List.map_cons, List.map_nil, Tm.av_mk]
   simp -implicitDefEqProofs only [hat0, evF, ↓evZ, implies_true, seval, tf_Cg_185]
   refine (eat _).to ?_
   simp -implicitDefEqProofs only [hat0, evF, ↓evZ, implies_true, seval, tf_Cg_185]
   refine (c_holds _ _).to ?_
   simp -implicitDefEqProofs only [hat0, evF, ↓evZ, implies_true, seval, tf_Cg_185]
   exact CallG.same hS _ rfl
 have hat : s ≠ ⟨#[97, 116, 111, 109]⟩ := by simpa using h
 simp -implicitDefEqProofs only [List.length_map, evF, ↓evZ, implies_true, seval, tf_Cg_185]
 refine zq4 (fun h => ?_) (fun h => ?_)
 · have hs : s = ⟨#[105, 110, 116]⟩ := by simpa using h
   obtain ⟨x, rfl⟩ := kids1 (ts := ks) (by subst hs; simp [isBuiltin] at hb; omega)
   have e : solveG σ s [x] = (codeB (testB s x), σ, []) := rfl
   rw [e]
   subst hs
   obtain ⟨xk, xn, xs, xt⟩ := x
   have hat0 : aIndexAddr prog 31 (.slice [(Tm.mk xk xn xs xt).av]) (.int .i64 0) = some (.pptr (Tm.mk xk xn xs xt).av) := ev_at (av := Tm.av) (l := [Tm.mk xk xn xs xt]) (i := 0) eI_31 rfl (Tm.av_width _)
   have eat := c_isAtom xk xn xs xt
   simp only [Tm.av_mk] at hat0 eat
   simp only [List.map_cons, List.map_nil, Tm.av_mk]
   simp -implicitDefEqProofs only [hat0, evF, ↓evZ, implies_true, seval, tf_Cg_185]
   refine (c_holds _ _).to ?_
   simp -implicitDefEqProofs only [hat0, evF, ↓evZ, implies_true, seval, tf_Cg_185]
   exact CallG.same hS _ rfl
 have hint : s ≠ ⟨#[105, 110, 116]⟩ := by simpa using h
 have hs : s = ⟨#[97, 114, 103]⟩ ∧ ks.length = 3 := by
  rcases hcs with ⟨h2, h3⟩ | ⟨h2, h3⟩ | ⟨h2, h3⟩ | ⟨h2, h3⟩
  · rw [hnc h2] at h3
    simp [he, hne, hee, his] at h3
  · simp [ht, hf] at h3
  · simp [hva, hnv, hat, hint] at h3
  · exact ⟨h3, h2⟩
 obtain ⟨hs, hk3⟩ := hs
 obtain ⟨x, y, z, rfl⟩ := kids3 hk3
 have hz := hv z (by simp)
 have hy := hv y (by simp)
 have e : solveG σ s [x, y, z] = argCG σ x y z := rfl
 rw [e]
 unfold argCG
 have hat0 : aIndexAddr prog 31 (.slice [x.av, y.av, z.av]) (.int .i64 0) = some (.pptr x.av) := ev_at (av := Tm.av) (l := [x, y, z]) (i := 0) eI_31 rfl (Tm.av_width x)
 have hat1 : aIndexAddr prog 31 (.slice [x.av, y.av, z.av]) (.int .i64 1) = some (.pptr y.av) := ev_at (av := Tm.av) (l := [x, y, z]) (i := 1) eI_31 rfl (Tm.av_width y)
 have hat2 : aIndexAddr prog 31 (.slice [x.av, y.av, z.av]) (.int .i64 2) = some (.pptr z.av) := ev_at (av := Tm.av) (l := [x, y, z]) (i := 2) eI_31 rfl (Tm.av_width z)
 clear hcs hb hnc hv e
 obtain ⟨xk, xn, xs, xt⟩ := x
 obtain ⟨yk, yn, ys, yt⟩ := y
 have hyl : yt.length ≤ 4 := by
  exact hy.1.kind.2
 rw [Tm.av_mk] at hat0
 simp only [Tm.av_mk xk, Tm.av_mk yk] at hat0 hat1 hat2
 simp only [List.map_cons, List.map_nil, Tm.av_mk xk, Tm.av_mk yk, Tm.k, Tm.ts]
 simp -implicitDefEqProofs only [hat0, hat1, hat2, Tm.av_agg, Tm.av_width, List.length_map, evF, ↓evZ, implies_true, seval, tf_Cg_185]
 refine zx4 (fun h => ?_) (fun h => ?_)
 case refine_2 =>
  have h' : xk = 1 := by simpa using h
  simp -implicitDefEqProofs only [h, hat0, hat1, hat2, Tm.av_agg, Tm.av_width, List.length_map, evF, ↓evZ, implies_true, seval, tf_Cg_185]
  rw [if_pos (.inl h')]
  exact CallG.same hS _ rfl
 have hx1 : xk ≠ 1 := by simpa using h
 simp -implicitDefEqProofs only [h, hat0, hat1, hat2, Tm.av_agg, Tm.av_width, List.length_map, evF, ↓evZ, implies_true, seval, tf_Cg_185]
 refine zq4 (fun h1 => ?_) (fun h1 => ?_)
 · have h' : yk = 1 := by simpa using h1
   simp -implicitDefEqProofs only [hat0, hat1, hat2, Tm.av_agg, Tm.av_width, List.length_map, evF, ↓evZ, implies_true, seval, tf_Cg_185]
   rw [if_pos (.inr h')]
   exact CallG.same hS _ rfl
 have hy1 : yk ≠ 1 := by simpa using h1
 rw [if_neg (fun h2 => h2.elim hx1 hy1)]
 have h3 : ∀ s2, (xk ≠ 2 ∨ yk ≠ 3 ∨ yt.length = 0) → s2 = st → CallG c m st q tr (if xk ≠ 2 ∨ yk ≠ 3 ∨ yt.length = 0 then ((3 : Int), σ, []) else match argT (.mk xk xn xs xt) (.mk yk yn ys yt) with | some u => uniCG σ z u | none => (1, σ, [])) (.int .i64 3) s2 := fun s2 hh e => by
  subst e
  rw [if_pos hh]
  exact CallG.same hS _ rfl
 simp -implicitDefEqProofs only [hat0, hat1, hat2, Tm.av_agg, Tm.av_width, List.length_map, evF, ↓evZ, implies_true, seval, tf_Cg_185]
 refine zx4 (fun h4 => ?_) (fun h4 => ?_)
 case refine_2 =>
  have h' : xk ≠ 2 := by simpa using h4
  simp -implicitDefEqProofs only [h4, hat0, hat1, hat2, Tm.av_agg, Tm.av_width, List.length_map, evF, ↓evZ, implies_true, seval, tf_Cg_185]
  exact h3 _ (.inl h') rfl
 have hx2 : xk = 2 := by simpa using h4
 simp -implicitDefEqProofs only [h4, hat0, hat1, hat2, Tm.av_agg, Tm.av_width, List.length_map, evF, ↓evZ, implies_true, seval, tf_Cg_185]
 refine zx4 (fun h5 => ?_) (fun h5 => ?_)
 case refine_2 =>
  have h' : yk ≠ 3 := by simpa using h5
  simp -implicitDefEqProofs only [h5, hat0, hat1, hat2, Tm.av_agg, Tm.av_width, List.length_map, evF, ↓evZ, implies_true, seval, tf_Cg_185]
  exact h3 _ (.inr (.inl h')) rfl
 have hy3 : yk = 3 := by simpa using h5
 simp -implicitDefEqProofs only [h5, hat0, hat1, hat2, Tm.av_agg, Tm.av_width, List.length_map, evF, ↓evZ, implies_true, seval, tf_Cg_185]
 refine zq4 (fun h6 => ?_) (fun h6 => ?_)
 · have h' : yt.length = 0 := by simp at h6; simp [h6]
   simp -implicitDefEqProofs only [hat0, hat1, hat2, Tm.av_agg, Tm.av_width, List.length_map, evF, ↓evZ, implies_true, seval, tf_Cg_185]
   exact h3 _ (.inr (.inr h')) rfl
 have hyt : yt.length ≠ 0 := by simp at h6; simpa using h6
 clear h3
 rw [if_neg (by simp [hx2, hy3]; intro h7; simp [h7] at hyt)]
 simp -implicitDefEqProofs only [hat0, hat1, hat2, Tm.av_agg, Tm.av_width, List.length_map, evF, ↓evZ, implies_true, seval, tf_Cg_185]
 refine arun_drawA mixed (by decide +kernel) (by decide +kernel) ?_
 simp -implicitDefEqProofs only [hat0, hat1, hat2, Tm.av_agg, Tm.av_width, List.length_map, evF, ↓evZ, implies_true, seval, tf_Cg_185]
 refine zw4 (c_within xn 1 _ _) ?_
 simp -implicitDefEqProofs only [hat0, hat1, hat2, Tm.av_agg, Tm.av_width, List.length_map, evF, ↓evZ, implies_true, seval, tf_Cg_185]
 refine zq4 (fun h7 => ?_) (fun h7 => ?_)
 · have h' : ¬ (1 ≤ xn ∧ xn ≤ yt.length) := by simp at h7; omega
   have ea : argT (.mk xk xn xs xt) (.mk yk yn ys yt) = none := if_neg h'
   rw [ea]
   simp -implicitDefEqProofs only [hat0, hat1, hat2, Tm.av_agg, Tm.av_width, List.length_map, evF, ↓evZ, implies_true, seval, tf_Cg_185]
   exact CallG.same hS _ rfl
 have h' : 1 ≤ xn ∧ xn ≤ yt.length := by simp at h7; omega
 obtain ⟨i, hi⟩ : ∃ i : Nat, xn - 1 = i := ⟨(xn - 1).toNat, by omega⟩
 have hlt : i < yt.length := by omega
 obtain ⟨u, hu⟩ : ∃ u, yt[i]? = some u := ⟨_, List.getElem?_eq_getElem hlt⟩
 have ea : argT (.mk xk xn xs xt) (.mk yk yn ys yt) = some u := by
  refine (if_pos h').trans ?_
  show yt[(xn - 1).toNat]? = some u
  rw [hi, Int.toNat_natCast, hu]
 rw [ea]
 have huv : OkX N u := okX_kids N (.mk yk yn ys yt) hy1 hy u (List.mem_of_getElem? hu)
 have hw : IntKind.i64.wrap (xn - 1) = (i : Int) := by rw [wrap64 (by omega) (by omega)]; exact hi
 have hatu := ev_at (av := Tm.av) (P := prog) eI_31 hu (Tm.av_width u)
 simp -implicitDefEqProofs only [hat0, hat1, hat2, hatu, hw, Tm.av_agg, Tm.av_width, List.length_map, evF, ↓evZ, implies_true, seval, tf_Cg_185]
 refine wX [(0, 1), (1, 1), (2, 1), (3, 1), (4, 1), (5, 1), (6, 1), (7, 1), (8, 1), (9, 1), (10, 1), (11, 1), (12, 1), (13, 1), (14, 1), (15, 0), (16, 0), (17, 1)] [0, 1, 2, 3, 4, 5, 6, 7, 8, 9, 10, 11, 12, 13, 14, 17] none0' mixed rfl ext_none ?_
 simp -implicitDefEqProofs only [hat0, hat1, hat2, hatu, hw, Tm.av_agg, Tm.av_width, List.length_map, evF, ↓evZ, implies_true, seval, tf_Cg_185]
 refine (c_unifyG hg ho z u hz huv c m q tr _ hS hl).mono ?_
 rintro _ s2 ⟨rfl, hP⟩
 simp -implicitDefEqProofs only [hat0, hat1, hat2, hatu, hw, Tm.av_agg, Tm.av_width, List.length_map, evF, ↓evZ, implies_true, seval, tf_Cg_185]
 refine ⟨ext_none, ?_⟩
 refine (c_holds _ _).to ?_
 simp -implicitDefEqProofs only [hat0, hat1, hat2, hatu, hw, Tm.av_agg, Tm.av_width, List.length_map, evF, ↓evZ, implies_true, seval, tf_Cg_185]
 exact ⟨ext_none, rfl, hP⟩
abbrev tf_T3_208 := zi tI_3 (zi zI_3 (zi underlying3 (zi tI_42 (zi zI_42 (zi fI_42_0 (zi fI_42_1 (zi fI_42_2 (zi fI_42_3 bI_42))))))))
theorem c_try_1 (n : Int) (F : Nat) (h0 : 0 ≤ n) (h1 : n ≤ 1048576) (hF : F ≤ 536870912) (st : zy7) : zq7 prog 208 [.int .i64 n, .pptr (.int .i64 (F : Int))] st (fun r st' => r = (vr (n + (F : Int))).av ∧ st' = st) := by
 refine zq7.done ?_
 refine wF [1000000] 2 func208 ntmps208 rfl rfl ?_
 intro _
 have hw := wrap64 (n := n + (F : Int)) (by omega) (by omega)
 simp -implicitDefEqProofs only [zy4, hw, Tm.av_agg, Tm.av_width, Tm.av_store, Tm.av_junk, Tm.av_cells, Nat.le_refl, take_all (Tm.av_cells _), agg_cells (Tm.av_agg _), evF, ↓evZ, implies_true, seval, tf_T3_208]
 intro b3 h3
 refine (c_variable _ _).to ?_
 simp -implicitDefEqProofs only [zy4, hw, Tm.av_agg, Tm.av_width, Tm.av_store, Tm.av_junk, Tm.av_cells, Nat.le_refl, take_all (Tm.av_cells _), agg_cells (Tm.av_agg _), evF, ↓evZ, implies_true, seval, tf_T3_208]
 exact ⟨by simp only [soft_agg, soft_tup, soft_int, soft_bool, soft_str, soft_slice, soft_fslice, soft_ptr, soft_pptr, soft_map, soft_mslice, Tm.soft, List.map_cons, List.map_nil], (Drops.refl _).upd h3⟩
theorem c_shift {F : Nat} (hF : F ≤ 536870912) (t : Tm) (h : OkX 26 t) (st : zy7) : zq7 prog 57 [t.av, .func 208 [.pptr (.int .i64 (F : Int))]] st (fun r st' => r = (shf F t).av ∧ st' = st) :=
 c_mapVars (fun v => vr (v + (F : Int))) _ _ rfl t st h.1.small fun n hn s => c_try_1 n F (h.1.2.2 n hn).1 (by have := (h.1.2.2 n hn).2; omega) hF s
theorem glAv_fin {b : Nat} {L : List AV} (l : List IG) : (glAv l).fin b L = glAv l := by
 cases l with
 | nil => rw [glAv]; unfold AV.fin; split <;> rfl
 | cons g l => obtain ⟨⟨k, n, s, ts⟩, cut, up⟩ := g; rw [glAv_cons]; exact fin_pptr
abbrev tf_T3_187 := zi tI_3 (zi zI_3 (zi underlying3 (zi tI_4 (zi zI_4 (zi underlying4 (zi tI_29 (zi zI_29 (zi eI_29 (zi eB_29 (zi eZ_29 (zi underlying29 (zi tI_31 (zi zI_31 (zi eI_31 (zi eB_31 (zi eZ_31 (zi underlying31 (zi tI_42 (zi zI_42 (zi fI_42_0 (zi fI_42_1 (zi fI_42_2 (zi fI_42_3 (zi bI_42 (zi tI_58 (zi zI_58 (zi eI_58 (zi eB_58 (zi eZ_58 (zi underlying58 (zi tI_75 (zi zI_75 (zi fI_75_0 (zi fI_75_1 (zi bI_75 (zi tI_85 (zi zI_85 (zi tI_120 (zi zI_120 (zi tI_128 (zi zI_128 (zi fI_128_0 (zi fI_128_1 (zi bI_128 (zi tI_167 (zi zI_167 (zi tI_168 (zi zI_168 (zi eI_168 (zi eB_168 (zi eZ_168 (zi underlying168 (zi tI_169 (zi zI_169 (zi eI_169 (zi eB_169 (zi eZ_169 (zi underlying169 (zi tI_171 (zi zI_171 (zi fI_171_0 (zi fI_171_1 (zi fI_171_2 (zi fI_171_3 (zi fI_171_4 (zi fI_171_5 (zi fI_171_6 (zi fI_171_7 (zi fI_171_8 (zi fI_171_9 (zi fI_171_10 (zi fI_171_11 (zi bI_171 (zi tI_201 (zi zI_201 (zi fI_201_0 (zi fI_201_1 (zi fI_201_2 (zi bI_201 (zi tI_204 (zi zI_204 (zi fI_204_0 (zi fI_204_1 (zi fI_204_2 (zi fI_204_3 (zi fI_204_4 (zi fI_204_5 bI_204)))))))))))))))))))))))))))))))))))))))))))))))))))))))))))))))))))))))))))))))))))))))
set_option maxHeartbeats 2000000 in
theorem c_try {p : List Cl} (hp : ∀ c ∈ p, ClX c ∧ c.2.length ≤ 6) {M : Nat} (hM : M ≤ 268435456) {st0 st : zy7} {S c m : Nat} {qt qc qn : AV} {q : List Tm} {idx : Bool} {fuel used mx : Int} {nd : List AV} {i : IS} (h : SrA st0 st S c m qt qc qn p q idx fuel used mx nd i)
 (goal : Tm) (at' : Nat) (rest : List IG) (list : List Nat) (hg : IsGood i.σ) (ho : AllS (OkX i.fresh) i.σ) (hgo : OkX i.fresh goal) (hl : ∀ x ∈ list, x < p.length) (hll : list.length ≤ 1048576) (ha : at' < i.nn) (hX : IX p M i) (hMl : i.fresh + 26 * lsum i.chs + 26 * list.length ≤ M) (hch : i.chs.length ≤ 524288) (hnn : i.nn ≤ 524288) :
 zq7 prog 187 [.ptr S 0, goal.av, .int .i64 (at' : Int), .slice (list.map nv), glAv rest] st (fun r st' => r = .bool (iTry p goal at' rest list i).1 ∧ ∃ qt' qc' mx' nd', SrA st0 st' S c m qt' qc' qn p q idx fuel used mx' nd' (iTry p goal at' rest list i).2) := by
 obtain ⟨bN, rfl⟩ := h.nodes ha
 obtain ⟨gk, gn, gs', gts⟩ := goal
 obtain ⟨g1, g2, g3, g4, g5, g6⟩ := glAv_facts rest
 generalize hT : iTry p (.mk gk gn gs' gts) at' rest list i = T
 simp only [Tm.av_mk]
 have hun : prog.underlying 58 = some (.slice 3) := by kernel_rfl
 have hcell : st S = some (.cells [.ptr c 0, .slice (p.map clAv), .slice (q.map Tm.av), .bool idx, .bool false, .int .i64 fuel, .int .i64 used, .int .i64 i.fresh, glAv i.goals, qc, .mslice bN 0 nd.length 6, .int .i64 mx]) := h.cell
 have hcc := h.sto.sub.cells
 have htl := h.sto.trailLen (P := prog) hun
 obtain ⟨t1, t2, t3, t4, t5⟩ := h.sto.shape
 refine zq7.dropS ?_
 refine wF [1000000] 5 func187 ntmps187 rfl rfl ?_
 intro _
 simp -implicitDefEqProofs only [zy4, List.length_map, hcell, hcc, htl, g1, g2, g3, g4, g5, t1, t2, t4, t5, evF, ↓evZ, implies_true, seval, tf_T3_187]
 refine zy5 (σ := zy7 × AV) [1000000] [0, 2, 3, 4, 6, 11, 28, 29] list (fun k s => SrA st0 s.1 S c m s.2 qc (.mslice bN 0 nd.length 6) p q idx fuel used mx nd { i with fresh := i.fresh + 26 * k } ∧ iTry p (.mk gk gn gs' gts) at' rest (list.drop k) { i with fresh := i.fresh + 26 * k } = T)
  (fun k s => [(10, .bool false), (30, .int .i64 k)]) (fun k s => s.1) (by decide +kernel) ⟨(st, qt), ⟨h, hT⟩, zx7.mk (by simp -implicitDefEqProofs only [zy4, List.length_map, hcell, hcc, htl, g1, g2, g3, g4, g5, t1, t2, t4, t5, evF, ↓evZ, implies_true, seval, tf_T3_187])⟩ (fun k x s hx hlt hlt' hdr hinv => ?_) (fun s hge hinv => ?_)
 case refine_2 =>
  simp -implicitDefEqProofs only [hge, zy4, List.length_map, hcell, hcc, htl, g1, g2, g3, g4, g5, t1, t2, t4, t5, evF, ↓evZ, implies_true, seval, tf_T3_187]
  obtain ⟨hi, he⟩ := hinv
  rw [List.drop_length] at he
  unfold iTry at he
  subst he
  exact ⟨s.1, Drops.refl _, rfl, _, _, _, _, hi⟩
 obtain ⟨st, qt⟩ := s
 obtain ⟨h, hT⟩ := hinv
 simp only at h hT
 obtain ⟨t1, t2, t3, t4, t5⟩ := h.sto.shape
 obtain ⟨n1, n2, n3, n4, n5⟩ := h.acC.shape
 obtain ⟨m1, m2, m3, m4, m5⟩ := h.acN.shape
 obtain ⟨l1, l2, l3, l4, l5, l6⟩ := glAv_facts i.goals
 have hxl := hl x (List.mem_of_getElem? hx)
 obtain ⟨cl, hcx⟩ : ∃ cl, p[x]? = some cl := ⟨_, List.getElem?_eq_getElem hxl⟩
 obtain ⟨hclx, hcl6⟩ := hp cl (List.mem_of_getElem? hcx)
 rw [hdr, iTry.eq_def] at hT
 simp only [hcx] at hT
 have hat : aIndexAddr prog 58 (.slice (list.map nv)) (.int .i64 (k : Int)) = some (.pptr (.int .i64 (x : Int))) := ev_at (av := nv) eI_58 hx rfl
 have hatc := ev_at (av := clAv) (P := prog) eI_29 hcx (clAv_width cl)
 have hw := wrap64 (n := (k : Int) + 1) (by omega) (by omega)
 generalize hF : i.fresh + 26 * k = F at *
 have hFM : F + 26 ≤ M := by have := lsum_take i.chs 0; omega
 have hw26 := wrap64 (n := (F : Int) + 26) (by omega) (by omega)
 have hcell : st S = some (.cells [.ptr c 0, .slice (p.map clAv), .slice (q.map Tm.av), .bool idx, .bool false, .int .i64 fuel, .int .i64 used, .int .i64 F, glAv i.goals, qc, .mslice bN 0 nd.length 6, .int .i64 mx]) := h.cell
 obtain ⟨⟨ck, cn, cs', cts⟩, bd⟩ := cl
 rw [clAv_mk] at hatc
 simp -implicitDefEqProofs only [hlt', zy4, List.length_map, hcell, hat, hatc, hw, hw26, g1, g2, g3, g4, g5, t1, t2, t4, t5, n1, n2, n4, n5, m1, m2, m4, m5, l1, l2, l4, l5, zy7.upd_same, evF, ↓evZ, implies_true, seval, tf_T3_187]
 have h2 := h.put (gl := i.goals) (F := F + 26) (fuel' := fuel) (used' := used) (mx' := mx) (cs := [.ptr c 0, .slice (p.map clAv), .slice (q.map Tm.av), .bool idx, .bool false, .int .i64 fuel, .int .i64 used, .int .i64 ((F : Int) + 26), glAv i.goals, qc, .mslice bN 0 nd.length 6, .int .i64 mx]) rfl
 generalize st.upd S (.cells [.ptr c 0, .slice (p.map clAv), .slice (q.map Tm.av), .bool idx, .bool false, .int .i64 fuel, .int .i64 used, .int .i64 ((F : Int) + 26), glAv i.goals, qc, .mslice bN 0 nd.length 6, .int .i64 mx]) = V at *
 simp only at h2
 have hcellV : V S = some (.cells [.ptr c 0, .slice (p.map clAv), .slice (q.map Tm.av), .bool idx, .bool false, .int .i64 fuel, .int .i64 used, .int .i64 ((F : Int) + 26), glAv i.goals, qc, .mslice bN 0 nd.length 6, .int .i64 mx]) := h2.cell
 refine wX [(0, 1), (1, 1), (2, 1), (3, 1), (4, 1), (5, 1), (6, 1), (7, 1), (8, 1), (9, 1), (10, 1), (11, 1), (12, 1), (13, 1), (14, 0), (15, 0), (16, 1)] [0, 1, 2, 3, 4, 5, 6, 7, 8, 9, 10, 11, 12, 13, 16] (one S (.cells [.ptr c 0, .slice (p.map clAv), .slice (q.map Tm.av), .bool idx, .bool false, .int .i64 fuel, .int .i64 used, .int .i64 ((F : Int) + 26), glAv i.goals, qc, .mslice bN 0 nd.length 6, .int .i64 mx])) mixed rfl (ext_one hcellV) ?_
 simp -implicitDefEqProofs only [one_same, zy4, List.length_map, hcell, hat, hatc, hw, hw26, g1, g2, g3, g4, g5, t1, t2, t4, t5, n1, n2, n4, n5, m1, m2, m4, m5, l1, l2, l4, l5, zy7.upd_same, evF, ↓evZ, implies_true, seval, tf_T3_187]
 have hsh := fun st => c_shift (F := F) (by omega) (.mk ck cn cs' cts) hclx.head st
 have hhd : OkX ((F + 26 : Nat) : Int) (shf F (.mk ck cn cs' cts)) := (hclx.shf F (.mk ck cn cs' cts) (by simp)).mono (by have := hclx.fr.1; omega)
 have htr := h2.sto
 obtain ⟨r, σ', add, U⟩ := uniG_of (N := F + 26) hg (fun n u e => (ho n u e).mono (by omega)) (hgo.mono (by omega)) hhd
 have htl : i.tr.length ≤ i.fresh := hX.trl
 have hun := c_unifyG (N := F + 26) hg (fun n u e => (ho n u e).mono (by omega)) (.mk gk gn gs' gts) (shf F (.mk ck cn cs' cts)) (hgo.mono (by omega)) hhd c m qt i.tr V h2.sto (by omega)
 rw [U.eq] at hT hun
 simp only at hT hun
 have hout := U.outEq
 have hso := U.sol
 clear U
 generalize hy : shf F (.mk ck cn cs' cts) = y at *
 obtain ⟨yk, yn, ys, yt⟩ := y
 simp only [Tm.av_mk] at hsh hun ⊢
 refine (hsh _).to ?_
 simp -implicitDefEqProofs only [one_same, zy4, List.length_map, hcell, hat, hatc, hw, hw26, g1, g2, g3, g4, g5, t1, t2, t4, t5, n1, n2, n4, n5, m1, m2, m4, m5, l1, l2, l4, l5, zy7.upd_same, evF, ↓evZ, implies_true, seval, tf_T3_187]
 refine ⟨ext_one hcellV, ?_⟩
 refine hun.mono ?_
 rintro _ s2 ⟨rfl, hP⟩
 obtain ⟨qt2, h3⟩ := h2.post hP
 have hcell3 : s2 S = some (.cells [.ptr c 0, .slice (p.map clAv), .slice (q.map Tm.av), .bool idx, .bool false, .int .i64 fuel, .int .i64 used, .int .i64 ((F : Int) + 26), glAv i.goals, qc, .mslice bN 0 nd.length 6, .int .i64 mx]) := h3.cell
 simp -implicitDefEqProofs only [one_same, zy4, List.length_map, hcell3, hat, hatc, hw, hw26, g1, g2, g3, g4, g5, t1, t2, t4, t5, n1, n2, n4, n5, m1, m2, m4, m5, l1, l2, l4, l5, zy7.upd_same, evF, ↓evZ, implies_true, seval, tf_T3_187]
 refine ⟨ext_one hcell3, ?_⟩
 refine zq4 (fun hr => ?_) (fun hr => ?_)
 · have hr' : r = false := by simpa using hr
   rw [if_neg (by rw [hr']; simp)] at hT
   simp -implicitDefEqProofs only [zy4, List.length_map, hcell3, hat, hatc, hw, hw26, g1, g2, g3, g4, g5, t1, t2, t4, t5, n1, n2, n4, n5, m1, m2, m4, m5, l1, l2, l4, l5, zy7.upd_same, evF, ↓evZ, implies_true, seval, tf_T3_187]
   have hud := c_undoG σ' (i.tr ++ add) i.tr.length (by simp) c m qt2 s2 h3.sto (by
    have := h3.sto
    have : add.length ≤ F + 26 := nodup_VN hso.nodup hso.inN
    rw [List.length_append]; omega)
   refine hud.mono ?_
   rintro _ s4 ⟨rfl, qt4, hS4, hb4, hf4⟩
   simp -implicitDefEqProofs only [zy4, List.length_map, hcell3, hat, hatc, hw, hw26, g1, g2, g3, g4, g5, t1, t2, t4, t5, n1, n2, n4, n5, m1, m2, m4, m5, l1, l2, l4, l5, zy7.upd_same, evF, ↓evZ, implies_true, seval, tf_T3_187]
   have h5 := h3.turn hS4 (fun b o hb e1 e2 _ => hf4 b o hb e1 e2) (fun b hb => .inl (hb4 b hb))
   simp only [List.drop_left, List.take_left, hout] at h5
   refine ⟨(s4, qt4), ⟨?_, ?_⟩, zx7.mk (by simp -implicitDefEqProofs only [hw, zy4, List.length_map, hcell3, hat, hatc, hw, hw26, g1, g2, g3, g4, g5, t1, t2, t4, t5, n1, n2, n4, n5, m1, m2, m4, m5, l1, l2, l4, l5, zy7.upd_same, evF, ↓evZ, implies_true, seval, tf_T3_187])⟩
   · rw [show i.fresh + 26 * (k + 1) = F + 26 by omega]; exact h5
   · rw [show i.fresh + 26 * (k + 1) = F + 26 by omega]; exact hT
 have hr' : r = true := by simpa using hr
 have hndl : nd.length = i.nn := h3.ndl
 rw [if_pos hr'] at hT
 have hunC : prog.underlying 168 = some (.slice 204) := by kernel_rfl
 have hunN : prog.underlying 169 = some (.slice 201) := by kernel_rfl
 have hlC := h3.acC.len hunC
 have hlN := h3.acN.len hunN
 rw [List.length_map] at hlC
 rw [h3.ndl] at hlN
 simp only at hlC hlN
 have hatN := held_at (P := prog) (b := bN) (w := 6) (i := at') eI_169 (len := nd.length) (by rw [h3.ndl]; exact ha)
 simp -implicitDefEqProofs only [zy4, List.length_map, hcell3, hlC, hlN, hat, hatc, hw, hw26, g1, g2, g3, g4, g5, n1, n2, n4, n5, m1, m2, m4, m5, zy7.upd_same, evF, ↓evZ, implies_true, seval, tf_T3_187]
 refine zq4 (fun h7 => ?_) (fun h7 => ?_)
 · have h' : k + 1 < list.length := by simp at h7; omega
   have hdn : list.drop (k + 1) ≠ [] := by intro e; have := congrArg List.length e; simp at this; omega
   rw [if_neg hdn] at hT
   have hsl := fun (φ : AF) (d : Nat) (h : φ d = .int .i64 ((k : Int) + 1)) => slice_nv h' h
   refine wX [(0, 1), (1, 1), (2, 1), (3, 1), (4, 1), (5, 1), (6, 1), (7, 1), (8, 1), (9, 1), (10, 1), (11, 1), (12, 1), (13, 1), (14, 1), (15, 1), (16, 1), (17, 1), (18, 1), (19, 1), (20, 0), (21, 1), (22, 1), (23, 2)] [0, 1, 2, 3, 4, 5, 6, 7, 8, 9, 10, 11, 12, 13, 14, 15, 16, 17, 18, 19, 21, 22] (one S (.cells [.ptr c 0, .slice (p.map clAv), .slice (q.map Tm.av), .bool idx, .bool false, .int .i64 fuel, .int .i64 used, .int .i64 ((F : Int) + 26), glAv i.goals, qc, .mslice bN 0 nd.length 6, .int .i64 mx])) mixed rfl (ext_one hcell3) ?_
   simp -implicitDefEqProofs only [zy4, List.length_map, hcell3, hlC, hlN, hsl, hat, hatc, hw, hw26, g1, g2, g3, g4, g5, n1, n2, n4, n5, m1, m2, m4, m5, zy7.upd_same, one_same, evF, ↓evZ, implies_true, seval, tf_T3_187]
   refine AccW.append eI_168 eB_168 eZ_168 rfl (by decide) h3.acC rfl (icAv_store ⟨.mk gk gn gs' gts, at', rest, list.drop (k + 1), i.tr.length, nd.length⟩) (by rw [List.length_map]; simp only; omega) (fun qc5 s5 hacc hf hn => ?_)
   have hch5 : (i.chs.map icAv) ++ [icAv ⟨.mk gk gn gs' gts, at', rest, list.drop (k + 1), i.tr.length, nd.length⟩] = (i.chs ++ [(⟨.mk gk gn gs' gts, at', rest, list.drop (k + 1), i.tr.length, nd.length⟩ : IC)]).map icAv := by simp
   have hacc := hch5 ▸ hacc
   obtain ⟨c1, c2, c3, c4, c5⟩ := hacc.shape
   have hS5 : s5 S = s2 S := hf S h3.parts.2.2.2.2.1 (fun hb => by
    rcases hn S hb with h' | h'
    · exact h3.parts.2.2.2.2.1 h'
    · rw [hcell3] at h'; cases h')
   have hcell5' := hS5.trans hcell3
   have hext := ext_one hcell5'
   simp -implicitDefEqProofs only [zy4, List.length_map, hcell5', hlC, hlN, hsl, hat, hatc, hw, hw26, g1, g2, g3, g4, g5, c1, c2, c4, c5, n1, n2, n4, n5, m1, m2, m4, m5, zy7.upd_same, one_same, evF, ↓evZ, implies_true, seval, tf_T3_187]
   refine ⟨hext, ?_⟩
   have h5 := h3.pushC hacc hf hn (cs := [.ptr c 0, .slice (p.map clAv), .slice (q.map Tm.av), .bool idx, .bool false, .int .i64 fuel, .int .i64 used, .int .i64 ((F : Int) + 26), glAv i.goals, qc5, .mslice bN 0 nd.length 6, .int .i64 mx]) rfl
   generalize s5.upd S (.cells [.ptr c 0, .slice (p.map clAv), .slice (q.map Tm.av), .bool idx, .bool false, .int .i64 fuel, .int .i64 used, .int .i64 ((F : Int) + 26), glAv i.goals, qc5, .mslice bN 0 nd.length 6, .int .i64 mx]) = V5 at *
   rw [show (⟨.mk gk gn gs' gts, at', rest, list.drop (k + 1), i.tr.length, nd.length⟩ : IC) = ⟨.mk gk gn gs' gts, at', rest, list.drop (k + 1), i.tr.length, i.nn⟩ by rw [hndl]] at h5
   obtain ⟨csN, hbN, hcN⟩ := h5.nodeAt
   obtain ⟨c1, c2, c3, c4, c5⟩ := (h5).acC.shape
   have hSN : S ≠ bN := fun e => (h5).parts.2.2.2.2.2.1 (by rw [e]; simp [ownB])
   have hcell5 := h5.cell
   simp only [srC] at hcell5
   rw [show ((F + 26 : Nat) : Int) = (F : Int) + 26 from rfl] at hcell5
   simp -implicitDefEqProofs only [zy4, List.length_map, hcell5, hbN, hSN, hatN, hatc, hw, g1, g2, g3, g4, g5, c1, c2, c4, c5, n1, n2, n4, n5, m1, m2, m4, m5, zy7.upd_same, evF, ↓evZ, implies_true, seval, tf_T3_187]
   refine ⟨by omega, ?_⟩
   obtain ⟨nd6, h6⟩ := (h5).setN (x := .int .i64 (x : Int)) (k := at' * 6 + 5) rfl hbN (by omega)
   have hne6 := h6.ndl
   simp only at hne6
   rw [show zy4 csN (at' * 6 + 5) [.int .i64 (x : Int)] = List.take (at' * 6 + 5) csN ++ [AV.int IntKind.i64 (x : Int)] ++ List.drop (at' * 6 + 5 + 1) csN from rfl] at h6
   generalize zy7.upd _ bN (.cells (List.take (at' * 6 + 5) csN ++ [AV.int IntKind.i64 (x : Int)] ++ List.drop (at' * 6 + 5 + 1) csN)) = V6 at *
   have hcell6 := h6.cell
   simp only [srC] at hcell6
   rw [show ((F + 26 : Nat) : Int) = (F : Int) + 26 from rfl] at hcell6
   refine zq6 (σ := Unit) [1000000] [0, 2, 3, 4, 6, 10, 11, 12, 13, 14, 15, 16, 28, 29, 30, 31, 32, 33, 34, 35, 36, 37, 38, 39, 40, 41, 42, 43, 44, 45, 46, 47, 48, 49, 50, 51, 52, 53, 54, 55, 56, 57, 58, 59, 60, 61, 62, 63, 64, 65, 66, 67, 68, 70, 71, 72, 73, 74, 75, 76, 77, 78, 79, 80, 81, 82, 83, 84, 85, 86, 87, 88, 89, 90, 91, 92, 93, 94, 95, 96, 97, 98, 99, 100, 101, 102, 103, 104, 105, 106, 107, 108, 109, 110, 111, 112, 113, 114, 115, 116, 117, 118, 119] bd 4 17 (fun j _ => ((bd.take j).map (shf F)).map Tm.av) (fun _ _ => True) (fun j _ => [(120, .int .i64 j)]) (fun _ _ => V6) (fun j _ _ e he => by simp only [List.mem_map] at he; obtain ⟨t, _, rfl⟩ := he; exact ⟨Tm.av_junk _, Tm.av_width _⟩) (by decide +kernel) ⟨(), 0, trivial, fun h => absurd rfl h, zx7.mk (by simp -implicitDefEqProofs only [accV_nil, accS_nil, List.take_zero, List.map_nil, zy4, List.length_map, hcell6, hatN, hatc, hw, g1, g2, g3, g4, g5, c1, c2, c4, c5, n1, n2, n4, n5, m1, m2, m4, m5, zy7.upd_same, evF, ↓evZ, implies_true, seval, tf_T3_187])⟩ (fun j y5 _ b5 hx5 hlt5 hlt5' hdr5 hinv5 hb5 => ?_) (fun _ b5 hge5 hinv5 => ?_)
   · have hw5 := wrap64 (n := (j : Int) + 1) (by simp only at hcl6; omega) (by simp only at hcl6; omega)
     have hat5 := ev_at (av := Tm.av) (P := prog) eI_31 hx5 (Tm.av_width y5)
     have hlen5 : (((bd.take j).map (shf F)).map Tm.av).length = j := by simp only [List.length_map, List.length_take]; omega
     have hyb := hclx.body y5 (List.mem_of_getElem? hx5)
     simp -implicitDefEqProofs only [hlt5', zy4, List.length_map, hcell6, hatN, hat5, hw, g1, g2, g3, g4, g5, Tm.av_agg, Tm.av_width, Tm.av_store, Tm.av_junk, zy7.upd_same, evF, ↓evZ, implies_true, seval, tf_T3_187]
     refine (c_shift (F := F) (by omega) y5 hyb.1 _).to ?_
     simp -implicitDefEqProofs only [zy4, List.length_map, hcell6, hatN, hat5, hw, g1, g2, g3, g4, g5, Tm.av_agg, Tm.av_width, Tm.av_store, Tm.av_junk, zy7.upd_same, evF, ↓evZ, implies_true, seval, tf_T3_187]
     refine acc_append eI_31 eB_31 eZ_31 rfl rfl (by intro e he; simp only [List.mem_cons, List.not_mem_nil, or_false] at he; subst he; exact ⟨Tm.av_width _, Tm.av_store _⟩) (tm_widths _) hb5 (by simp only [hlen5, List.length_cons, List.length_nil]; simp only at hcl6; omega) (by simp only [hlen5, List.length_cons, List.length_nil]; simp only at hcl6; omega) (fun b' hb' => ?_)
     rw [show (((bd.take j).map (shf F)).map Tm.av) ++ [(shf F y5).av] = ((bd.take (j + 1)).map (shf F)).map Tm.av by rw [List.take_add_one, hx5]; simp] at hb' ⊢
     simp -implicitDefEqProofs only [zy4, List.length_map, hcell6, hatN, hat5, hw, g1, g2, g3, g4, g5, Tm.av_agg, Tm.av_width, Tm.av_store, Tm.av_junk, zy7.upd_same, evF, ↓evZ, implies_true, seval, tf_T3_187]
     exact ⟨(), b', hb', zx7.mk (by simp -implicitDefEqProofs only [hw5, zy4, List.length_map, hcell6, hatN, hat5, hw, g1, g2, g3, g4, g5, Tm.av_agg, Tm.av_width, Tm.av_store, Tm.av_junk, zy7.upd_same, evF, ↓evZ, implies_true, seval, tf_T3_187])⟩
   · have hput := fun st => c_put (bd.map (shf F)) i.chs.length at' rest (by simp only [List.length_map]; simp only at hcl6; omega) st
     simp -implicitDefEqProofs only [hge5, fin_agg, fin_tup, fin_int, fin_bool, fin_str, fin_slice, fin_fslice, fin_pptr, fin_ptr, fin_func, fin_map, fin_undef, fin_accV, tm_fin, List.take_length, glAv_fin, zy4, List.length_map, hcell6, hatN, hatc, hw, g1, g2, g3, g4, g5, c1, c2, c4, c5, n1, n2, n4, n5, m1, m2, m4, m5, zy7.upd_same, evF, ↓evZ, implies_true, seval, tf_T3_187]
     refine (hput _).to ?_
     have h7 := h6.put (gl := (bd.map (shf F)).map (fun t => (⟨t, i.chs.length, at'⟩ : IG)) ++ rest) (F := F + 26) (fuel' := fuel) (used' := used) (mx' := mx) rfl
     simp only [srC] at h7
     rw [show ((F + 26 : Nat) : Int) = (F : Int) + 26 from rfl] at h7
     have hgl : (bd.map (shf F)).map (fun t => (⟨t, i.chs.length, at'⟩ : IG)) ++ rest = bd.map (fun t => (⟨shf F t, i.chs.length, at'⟩ : IG)) ++ rest := by rw [List.map_map]; rfl
     rw [hgl] at h7 ⊢
     generalize bd.map (fun t => (⟨shf F t, i.chs.length, at'⟩ : IG)) ++ rest = NG at *
     obtain ⟨u1, u2, u3, u4, u5, u6⟩ := glAv_facts NG
     have hlC5 := h7.acC.len hunC
     simp only [List.length_map] at hlC5
     simp -implicitDefEqProofs only [zy4, List.length_map, hcell6, hlC5, u1, u2, u4, u5, c1, c2, c4, c5, zy7.upd_same, evF, ↓evZ, implies_true, seval, tf_T3_187]
     generalize zy7.upd V6 S _ = V7 at h7 ⊢
     have hcell7 := h7.cell
     simp only [srC] at hcell7
     rw [show ((F + 26 : Nat) : Int) = (F : Int) + 26 from rfl] at hcell7
     refine wX [(0, 1), (1, 1), (2, 1), (3, 1), (4, 1), (5, 1), (6, 1), (7, 1), (8, 1), (9, 1), (10, 0), (11, 1), (12, 1), (13, 2)] [0, 1, 2, 3, 4, 5, 6, 7, 8, 9, 11, 12] _ mixed rfl (ext_one hcell7) ?_
     simp -implicitDefEqProofs only [zy4, List.length_map, hcell7, hlC5, u1, u2, u4, u5, c1, c2, c4, c5, zy7.upd_same, one_same, evF, ↓evZ, implies_true, seval, tf_T3_187]
     refine ⟨ext_one hcell7, ?_⟩
     subst hT
     exact ⟨_, Drops.refl _, rfl, qt2, _, _, nd6, h7.put (gl := NG) (F := F + 26) rfl⟩
 · have h' : list.drop (k + 1) = [] := List.drop_eq_nil_of_le (by simp at h7; omega)
   rw [if_pos h'] at hT
   obtain ⟨csN, hbN, hcN⟩ := h3.nodeAt
   obtain ⟨c1, c2, c3, c4, c5⟩ := (h3).acC.shape
   have hSN : S ≠ bN := fun e => (h3).parts.2.2.2.2.2.1 (by rw [e]; simp [ownB])
   have hcell5 := h3.cell
   simp only [srC] at hcell5
   rw [show ((F + 26 : Nat) : Int) = (F : Int) + 26 from rfl] at hcell5
   simp -implicitDefEqProofs only [zy4, List.length_map, hcell5, hbN, hSN, hatN, hatc, hw, g1, g2, g3, g4, g5, c1, c2, c4, c5, n1, n2, n4, n5, m1, m2, m4, m5, zy7.upd_same, evF, ↓evZ, implies_true, seval, tf_T3_187]
   refine ⟨by omega, ?_⟩
   obtain ⟨nd6, h6⟩ := (h3).setN (x := .int .i64 (x : Int)) (k := at' * 6 + 5) rfl hbN (by omega)
   have hne6 := h6.ndl
   simp only at hne6
   rw [show zy4 csN (at' * 6 + 5) [.int .i64 (x : Int)] = List.take (at' * 6 + 5) csN ++ [AV.int IntKind.i64 (x : Int)] ++ List.drop (at' * 6 + 5 + 1) csN from rfl] at h6
   generalize zy7.upd _ bN (.cells (List.take (at' * 6 + 5) csN ++ [AV.int IntKind.i64 (x : Int)] ++ List.drop (at' * 6 + 5 + 1) csN)) = V6 at *
   have hcell6 := h6.cell
   simp only [srC] at hcell6
   rw [show ((F + 26 : Nat) : Int) = (F : Int) + 26 from rfl] at hcell6
   refine zq6 (σ := Unit) [1000000] [0, 2, 3, 4, 6, 10, 11, 12, 13, 14, 15, 16, 28, 29, 30, 31, 32, 33, 34, 35, 36, 37, 38, 39, 40, 41, 42, 43, 44, 45, 46, 47, 48, 49, 50, 51, 52, 53, 54, 55, 56, 57, 58, 59, 60, 61, 62, 63, 64, 65, 66, 67, 68, 70, 71, 72, 73, 74, 75, 76, 77, 78, 79, 80, 81, 82, 83, 84, 85, 86, 87, 88, 89, 90, 91, 92, 93, 94, 95, 96, 97, 98, 99, 100, 101, 102, 103, 104, 105, 106, 107, 108, 109, 110, 111, 112, 113, 114, 115, 116, 117, 118, 119] bd 4 17 (fun j _ => ((bd.take j).map (shf F)).map Tm.av) (fun _ _ => True) (fun j _ => [(120, .int .i64 j)]) (fun _ _ => V6) (fun j _ _ e he => by simp only [List.mem_map] at he; obtain ⟨t, _, rfl⟩ := he; exact ⟨Tm.av_junk _, Tm.av_width _⟩) (by decide +kernel) ⟨(), 0, trivial, fun h => absurd rfl h, zx7.mk (by simp -implicitDefEqProofs only [accV_nil, accS_nil, List.take_zero, List.map_nil, zy4, List.length_map, hcell6, hatN, hatc, hw, g1, g2, g3, g4, g5, c1, c2, c4, c5, n1, n2, n4, n5, m1, m2, m4, m5, zy7.upd_same, evF, ↓evZ, implies_true, seval, tf_T3_187])⟩ (fun j y5 _ b5 hx5 hlt5 hlt5' hdr5 hinv5 hb5 => ?_) (fun _ b5 hge5 hinv5 => ?_)
   · have hw5 := wrap64 (n := (j : Int) + 1) (by simp only at hcl6; omega) (by simp only at hcl6; omega)
     have hat5 := ev_at (av := Tm.av) (P := prog) eI_31 hx5 (Tm.av_width y5)
     have hlen5 : (((bd.take j).map (shf F)).map Tm.av).length = j := by simp only [List.length_map, List.length_take]; omega
     have hyb := hclx.body y5 (List.mem_of_getElem? hx5)
     simp -implicitDefEqProofs only [hlt5', zy4, List.length_map, hcell6, hatN, hat5, hw, g1, g2, g3, g4, g5, Tm.av_agg, Tm.av_width, Tm.av_store, Tm.av_junk, zy7.upd_same, evF, ↓evZ, implies_true, seval, tf_T3_187]
     refine (c_shift (F := F) (by omega) y5 hyb.1 _).to ?_
     simp -implicitDefEqProofs only [zy4, List.length_map, hcell6, hatN, hat5, hw, g1, g2, g3, g4, g5, Tm.av_agg, Tm.av_width, Tm.av_store, Tm.av_junk, zy7.upd_same, evF, ↓evZ, implies_true, seval, tf_T3_187]
     refine acc_append eI_31 eB_31 eZ_31 rfl rfl (by intro e he; simp only [List.mem_cons, List.not_mem_nil, or_false] at he; subst he; exact ⟨Tm.av_width _, Tm.av_store _⟩) (tm_widths _) hb5 (by simp only [hlen5, List.length_cons, List.length_nil]; simp only at hcl6; omega) (by simp only [hlen5, List.length_cons, List.length_nil]; simp only at hcl6; omega) (fun b' hb' => ?_)
     rw [show (((bd.take j).map (shf F)).map Tm.av) ++ [(shf F y5).av] = ((bd.take (j + 1)).map (shf F)).map Tm.av by rw [List.take_add_one, hx5]; simp] at hb' ⊢
     simp -implicitDefEqProofs only [zy4, List.length_map, hcell6, hatN, hat5, hw, g1, g2, g3, g4, g5, Tm.av_agg, Tm.av_width, Tm.av_store, Tm.av_junk, zy7.upd_same, evF, ↓evZ, implies_true, seval, tf_T3_187]
     exact ⟨(), b', hb', zx7.mk (by simp -implicitDefEqProofs only [hw5, zy4, List.length_map, hcell6, hatN, hat5, hw, g1, g2, g3, g4, g5, Tm.av_agg, Tm.av_width, Tm.av_store, Tm.av_junk, zy7.upd_same, evF, ↓evZ, implies_true, seval, tf_T3_187])⟩
   · have hput := fun st => c_put (bd.map (shf F)) i.chs.length at' rest (by simp only [List.length_map]; simp only at hcl6; omega) st
     simp -implicitDefEqProofs only [hge5, fin_agg, fin_tup, fin_int, fin_bool, fin_str, fin_slice, fin_fslice, fin_pptr, fin_ptr, fin_func, fin_map, fin_undef, fin_accV, tm_fin, List.take_length, glAv_fin, zy4, List.length_map, hcell6, hatN, hatc, hw, g1, g2, g3, g4, g5, c1, c2, c4, c5, n1, n2, n4, n5, m1, m2, m4, m5, zy7.upd_same, evF, ↓evZ, implies_true, seval, tf_T3_187]
     refine (hput _).to ?_
     have h7 := h6.put (gl := (bd.map (shf F)).map (fun t => (⟨t, i.chs.length, at'⟩ : IG)) ++ rest) (F := F + 26) (fuel' := fuel) (used' := used) (mx' := mx) rfl
     simp only [srC] at h7
     rw [show ((F + 26 : Nat) : Int) = (F : Int) + 26 from rfl] at h7
     have hgl : (bd.map (shf F)).map (fun t => (⟨t, i.chs.length, at'⟩ : IG)) ++ rest = bd.map (fun t => (⟨shf F t, i.chs.length, at'⟩ : IG)) ++ rest := by rw [List.map_map]; rfl
     rw [hgl] at h7 ⊢
     generalize bd.map (fun t => (⟨shf F t, i.chs.length, at'⟩ : IG)) ++ rest = NG at *
     obtain ⟨u1, u2, u3, u4, u5, u6⟩ := glAv_facts NG
     have hlC5 := h7.acC.len hunC
     simp only [List.length_map] at hlC5
     simp -implicitDefEqProofs only [zy4, List.length_map, hcell6, hlC5, u1, u2, u4, u5, c1, c2, c4, c5, zy7.upd_same, evF, ↓evZ, implies_true, seval, tf_T3_187]
     generalize zy7.upd V6 S _ = V7 at h7 ⊢
     have hcell7 := h7.cell
     simp only [srC] at hcell7
     rw [show ((F + 26 : Nat) : Int) = (F : Int) + 26 from rfl] at hcell7
     refine wX [(0, 1), (1, 1), (2, 1), (3, 1), (4, 1), (5, 1), (6, 1), (7, 1), (8, 1), (9, 1), (10, 0), (11, 1), (12, 1), (13, 2)] [0, 1, 2, 3, 4, 5, 6, 7, 8, 9, 11, 12] _ mixed rfl (ext_one hcell7) ?_
     simp -implicitDefEqProofs only [zy4, List.length_map, hcell7, hlC5, u1, u2, u4, u5, c1, c2, c4, c5, zy7.upd_same, one_same, evF, ↓evZ, implies_true, seval, tf_T3_187]
     refine ⟨ext_one hcell7, ?_⟩
     subst hT
     exact ⟨_, Drops.refl _, rfl, qt2, _, _, nd6, h7.put (gl := NG) (F := F + 26) rfl⟩
theorem iBack_eq (p : List Cl) (s : IS) : iBack p s.chs.length s = match s.chs.getLast? with
 | none => none
 | some c => if (iTry p c.goal c.node c.rest c.list (s.pop c)).1 = true then some (iTry p c.goal c.node c.rest c.list (s.pop c)).2 else iBack p (s.chs.length - 1) (iTry p c.goal c.node c.rest c.list (s.pop c)).2 := by
 obtain ⟨gl, σ, tr, chs, F, nn⟩ := s
 cases chs with
 | nil => rfl
 | cons c l => rw [List.length_cons, iBack]; rfl
structure BackI (p : List Cl) (M : Nat) (st0 : zy7) (S c m : Nat) (q : List Tm) (idx : Bool) (fuel used : Int) (T : Option IS) (st : zy7) (qt qc qn : AV) (mx : Int) (nd : List AV) (i : IS) (cs : List RC) : Prop where
 s : SrA st0 st S c m qt qc qn p q idx fuel used mx nd i
 r : ChR i.fresh cs i.chs i.σ i.tr
 x : IX p M i
 t : iBack p i.chs.length i = T
 n : i.chs.length ≤ 524288 ∧ i.nn ≤ 524288
def BackR (st0 st' : zy7) (S c m : Nat) (p : List Cl) (q : List Tm) (idx : Bool) (fuel used : Int) (r : AV) : Option IS → Prop
 | some i' => r = .int .i64 (-1) ∧ ∃ qt qc qn mx nd, SrA st0 st' S c m qt qc qn p q idx fuel used mx nd i'
 | none => r = .int .i64 0 ∧ ∃ qt qc qn mx nd i', SrA st0 st' S c m qt qc qn p q idx fuel used mx nd i'
abbrev tf_T4_151 := zi tI_3 (zi zI_3 (zi underlying3 (zi tI_42 (zi zI_42 (zi fI_42_0 (zi fI_42_1 (zi fI_42_2 (zi fI_42_3 (zi bI_42 (zi tI_58 (zi zI_58 (zi eI_58 (zi eB_58 (zi eZ_58 (zi underlying58 (zi tI_85 (zi zI_85 (zi tI_120 (zi zI_120 (zi tI_167 (zi zI_167 (zi tI_168 (zi zI_168 (zi eI_168 (zi eB_168 (zi eZ_168 (zi underlying168 (zi tI_169 (zi zI_169 (zi eI_169 (zi eB_169 (zi eZ_169 (zi underlying169 (zi tI_171 (zi zI_171 (zi fI_171_0 (zi fI_171_1 (zi fI_171_2 (zi fI_171_3 (zi fI_171_4 (zi fI_171_5 (zi fI_171_6 (zi fI_171_7 (zi fI_171_8 (zi fI_171_9 (zi fI_171_10 (zi fI_171_11 (zi bI_171 (zi tI_204 (zi zI_204 (zi fI_204_0 (zi fI_204_1 (zi fI_204_2 (zi fI_204_3 (zi fI_204_4 (zi fI_204_5 bI_204))))))))))))))))))))))))))))))))))))))))))))))))))))))))
set_option maxHeartbeats 2000000 in
theorem c_back {p : List Cl} (hp : ∀ c ∈ p, ClX c ∧ c.2.length ≤ 6) {M : Nat} (hM : M ≤ 16777216) {st0 : zy7} {S c m : Nat} {q : List Tm} {idx : Bool} {fuel used : Int} {T : Option IS} (st : zy7) (qt qc qn : AV) (mx : Int) (nd : List AV) (i : IS) (cs : List RC)
 (hI : BackI p M st0 S c m q idx fuel used T st qt qc qn mx nd i cs) :
 zq7 prog 151 [.ptr S 0] st (fun r st' => BackR st0 st' S c m p q idx fuel used r T) := by
 refine zq7.dropS ?_
 refine wF [1000000] 1 func151 ntmps151 rfl rfl ?_
 intro _
 simp -implicitDefEqProofs only [zy4, List.length_map, evF, ↓evZ, implies_true, seval, tf_T4_151]
 refine zw5 (σ := zy7 × AV × AV × AV × Int × List AV × IS × List RC) [1000000] [0] (fun x => BackI p M st0 S c m q idx fuel used T x.1 x.2.1 x.2.2.1 x.2.2.2.1 x.2.2.2.2.1 x.2.2.2.2.2.1 x.2.2.2.2.2.2.1 x.2.2.2.2.2.2.2) (fun x => [(2, .int .i64 0)]) (fun x => x.1) (fun x => x.2.2.2.2.2.2.1.chs.length) (by decide +kernel) ⟨(st, qt, qc, qn, mx, nd, i, cs), hI, zx7.mk (by simp -implicitDefEqProofs only [zy4, List.length_map, evF, ↓evZ, implies_true, seval, tf_T4_151])⟩ ?_
 clear hI
 rintro ⟨st, qt, qc, qn, mx, nd, i, cs⟩ ⟨hs, hr, hx, ht, hn1, hn2⟩
 simp only at hs hr hx ht hn1 hn2
 simp only
 obtain ⟨gl, τ, tr, ch, F, nn⟩ := i
 obtain ⟨t1, t2, t3, t4, t5⟩ := hs.sto.shape
 obtain ⟨n1, n2, n3, n4, n5⟩ := hs.acC.shape
 obtain ⟨m1, m2, m3, m4, m5⟩ := hs.acN.shape
 obtain ⟨l1, l2, l3, l4, l5, l6⟩ := glAv_facts gl
 have hunC : prog.underlying 168 = some (.slice 204) := by kernel_rfl
 have hlC := hs.acC.len hunC
 rw [List.length_map] at hlC
 simp only at hlC hr hx ht hn1 hn2
 have hcell := hs.cell
 simp only [srC] at hcell
 replace ht := (iBack_eq p ⟨gl, τ, tr, ch, F, nn⟩).symm.trans ht
 simp only at ht
 cases hr with
 | nil =>
  simp only [List.getLast?_nil] at ht
  subst ht
  simp only [List.length_nil] at hlC
  simp -implicitDefEqProofs only [zy4, List.length_map, hcell, hlC, t1, t2, t4, t5, n1, n2, n4, n5, m1, m2, m4, m5, l1, l2, l4, l5, zy7.upd_same, evE, ↓evZ2, ↓evZ3, ↓Int.cast_ofNat_Int, implies_true, zy2, aFn, List.contains, List.elem, zq3, zy1, zq2, sub, zx3, zw2, zw3, zy3, gd, zq1, zw0, zq0, zx0, zx2, zx1, zy0, zw1, List.range', ↓reduceIte, reduceCtorEq, Nat.reduceEqDiff, Nat.reduceAdd, Nat.reduceLeDiff, Nat.reduceMul, Nat.reduceLT, Nat.reduceBEq, Int.reduceEq, tf_T4_151]
  refine zq4 (fun h => absurd h (by decide)) (fun h => ?_)
  simp -implicitDefEqProofs only [zy4, List.length_map, hcell, hlC, t1, t2, t4, t5, n1, n2, n4, n5, m1, m2, m4, m5, l1, l2, l4, l5, zy7.upd_same, evF, ↓evZ, implies_true, seval, tf_T4_151]
  exact ⟨st, Drops.refl _, rfl, _, _, _, _, _, _, hs⟩
 | @snoc cs ds cR d _ _ C h1 h2 =>
  obtain ⟨hP, hMl, hnt, htn, htr, hli⟩ := hx.pop
  have e3 : (IS.pop ⟨gl, τ, tr, ds ++ [d], F, nn⟩ d) = ⟨gl, τ.out (tr.drop d.trail), tr.take d.trail, ds, F, d.taken⟩ := by simp only [IS.pop, List.dropLast_concat]
  simp only [List.getLast?_append, List.getLast?_singleton, Option.or_some, Option.some_or, e3] at ht
  obtain ⟨bC, csC, rfl, hbC, hlC2, htk⟩ := hs.acC.at (ic_widths _) (i := ds.length) (e := icAv d) (by simp)
  have hlm : ((ds ++ [d]).map icAv).length = ds.length + 1 := by simp
  rw [hlm] at hs hcell hlC
  have hSb : S ≠ bC := fun e => hs.parts.2.2.2.2.1 (by rw [e]; simp [ownB])
  have hdl : ds.length + 1 ≤ 524288 := by simp only [List.length_append, List.length_cons, List.length_nil] at hn1; omega
  have hw : IntKind.i64.wrap ((ds.length : Int) + 1 - 1) = (ds.length : Int) := by rw [wrap64 (by omega) (by omega)]; omega
  have hatC := held_at (P := prog) (b := bC) (w := 9) (i := ds.length) eI_168 (len := ds.length + 1) (by omega)
  have hcut := fun (φ : AF) (dd : Nat) (h : φ dd = .int .i64 (ds.length : Int)) => slice_hiW (b := bC) (n := ds.length + 1) (k := ds.length) eI_168 h (by omega)
  obtain ⟨⟨dk, dn, ds', dts⟩, dnode, drest, dlist, dtrail, dtaken⟩ := d
  rw [icAv_mk] at htk
  simp only at htn htr hnt hli hMl hP
  obtain ⟨g1, g2, g3, g4, g5, g6⟩ := glAv_facts drest
  have htk' : (csC.drop (ds.length * 9)).take 9 = [.int .i64 dk, .int .i64 dn, .str ds', .slice (dts.map Tm.av), .int .i64 (dnode : Int), glAv drest, .slice (dlist.map nv), .int .i64 (dtrail : Int), .int .i64 (dtaken : Int)] := htk
  simp -implicitDefEqProofs only [zy4, List.length_map, List.length_append, List.length_cons, List.length_nil, hcell, hlC, hbC, hSb, hlC2, htk', hatC, hcut, hw, t1, t2, t4, t5, n1, n2, n4, n5, m1, m2, m4, m5, l1, l2, l4, l5, g1, g2, g4, g5, zy7.upd_same, evF, ↓evZ, implies_true, seval, tf_T4_151]
  refine zq4 (fun h => ?_) (fun h => absurd h (by simp))
  simp -implicitDefEqProofs only [zy4, List.length_map, List.length_append, List.length_cons, List.length_nil, hcell, hlC, hbC, hSb, hlC2, htk', hatC, hcut, hw, t1, t2, t4, t5, n1, n2, n4, n5, m1, m2, m4, m5, l1, l2, l4, l5, g1, g2, g4, g5, zy7.upd_same, evF, ↓evZ, implies_true, seval, tf_T4_151]
  have hs2 := hs.cutC (k := ds.length) (gl := gl) (by simp only [List.length_append, List.length_cons, List.length_nil]; omega) (cs := srC c p q idx fuel used F (glAv gl) (.mslice bC 0 ds.length 9) qn mx) rfl
  simp only [List.take_left, srC] at hs2
  generalize zy7.upd st S _ = V at hs2 ⊢
  have hcellV := hs2.cell
  simp only [srC, cutQ] at hcellV hs2
  have htl := hs2.sto.trail
  refine wX [(0, 1), (1, 1), (2, 1), (3, 1), (4, 1), (5, 1), (6, 2)] [0, 1, 2, 3, 4, 5] _ mixed rfl (ext_one hcellV) ?_
  simp -implicitDefEqProofs only [zy4, List.length_map, hcellV, t1, t2, t4, t5, n1, n2, n4, n5, m1, m2, m4, m5, l1, l2, l4, l5, g1, g2, g4, g5, zy7.upd_same, one_same, evF, ↓evZ, implies_true, seval, tf_T4_151]
  refine (c_undoG τ tr dtrail htr c m qt V hs2.sto (by have := hx.trl; have := hx.phi; simp only at *; omega)).mono ?_
  rintro _ s4 ⟨rfl, qt4, hS4, hb4, hf4⟩
  have hs4 := hs2.turn hS4 (fun b o hb e1 e2 _ => hf4 b o hb e1 e2) (fun b hb => .inl (hb4 b hb))
  have hcell4 := hs4.cell
  simp only [srC] at hcell4
  obtain ⟨q1, q2, q3, q4, q5⟩ := hs4.sto.shape
  have hcutN := fun (φ : AF) (dd : Nat) (h : φ dd = .int .i64 (dtaken : Int)) => slice_accW eI_169 hs4.acN h (by rw [hs4.ndl]; exact htn)
  simp -implicitDefEqProofs only [zy4, List.length_map, hcell4, hcutN, q1, q2, q4, q5, n1, n2, n4, n5, m1, m2, m4, m5, l1, l2, l4, l5, g1, g2, g4, g5, zy7.upd_same, one_same, evF, ↓evZ, implies_true, seval, tf_T4_151]
  have hAN := hs4.acN.take (k := dtaken) (by rw [hs4.ndl]; exact htn) hs4.ndw
  obtain ⟨e1', e2', e3', e4', e5'⟩ := hAN.shape
  have hs6 := hs4.cutN (k := dtaken) htn rfl
  simp only [srC] at hs6
  obtain ⟨ρ, Sm, e1, hok, hG, e2⟩ := h1
  simp only at e1 e2
  have htry := c_try hp (show M ≤ 268435456 by omega) hs6 (.mk dk dn ds' dts) dnode drest dlist Sm.g2 Sm.o2 (e1 ▸ Sm.renX hok) hli (by omega) hnt hP hMl (by first | omega | (simp only; omega)) (by first | omega | (simp only; omega))
  simp only [Tm.av_mk] at htry
  have hsim := try_sim (fun c h => (hp c h).1) (nn := dtaken) (at' := dnode) (tr := tr.take dtrail) hok hG cR.left F gl Sm C
  rw [← e1, ← e2] at hsim
  refine wX [(0, 1), (1, 1), (2, 1), (3, 1), (4, 1), (5, 1), (6, 1), (7, 1), (8, 1), (9, 1), (10, 2)] [0, 1, 2, 3, 4, 5, 6, 7, 8, 9] _ mixed rfl (ext_one hcell4) ?_
  simp -implicitDefEqProofs only [zy4, List.length_map, hcell4, hcutN, e1', e2', e4', e5', q1, q2, q4, q5, n1, n2, n4, n5, m1, m2, m4, m5, l1, l2, l4, l5, g1, g2, g4, g5, zy7.upd_same, one_same, evF, ↓evZ, implies_true, seval, tf_T4_151]
  refine htry.mono ?_
  rintro _ s7 ⟨rfl, qt7, qc7, mx7, nd7, hs7⟩
  simp -implicitDefEqProofs only [zy4, List.length_map, hcell4, hcutN, e1', e2', e4', e5', q1, q2, q4, q5, n1, n2, n4, n5, m1, m2, m4, m5, l1, l2, l4, l5, g1, g2, g4, g5, zy7.upd_same, one_same, evF, ↓evZ, implies_true, seval, tf_T4_151]
  refine zq4 (fun h => ?_) (fun h => ?_)
  · simp -implicitDefEqProofs only [zy4, List.length_map, hcell4, hcutN, e1', e2', e4', e5', q1, q2, q4, q5, n1, n2, n4, n5, m1, m2, m4, m5, l1, l2, l4, l5, g1, g2, g4, g5, zy7.upd_same, one_same, evF, ↓evZ, implies_true, seval, tf_T4_151]
    rw [if_pos h] at ht
    subst ht
    exact ⟨s7, Drops.refl _, rfl, _, _, _, _, _, hs7⟩
  · rw [if_neg (by rw [h]; simp)] at ht
    cases hrt : rTry p cs cR.goal cR.rest cR.σ cR.N cR.left with
    | some s =>
     rw [e2, hrt] at hsim
     obtain ⟨i2, k1, _⟩ := hsim
     rw [← e2] at k1
     rw [k1] at h
     cases h
    | none =>
     rw [e2, hrt] at hsim
     obtain ⟨F', hF, k1⟩ := hsim
     rw [← e2] at k1
     have hX7 := iTry_X (fun c h => (hp c h).1) (rest := drest) dlist _ hli (at' := dnode) (by simp only; exact hnt) (by simp only; exact hMl) hP Sm.g2 Sm.o2 (e1 ▸ Sm.renX hok)
     rw [k1] at hs7 ht hX7
     simp -implicitDefEqProofs only [zy4, List.length_map, hcell4, hcutN, e1', e2', e4', e5', q1, q2, q4, q5, n1, n2, n4, n5, m1, m2, m4, m5, l1, l2, l4, l5, g1, g2, g4, g5, zy7.upd_same, one_same, evF, ↓evZ, implies_true, seval, tf_T4_151]
     refine ⟨(s7, qt7, qc7, _, mx7, nd7, ⟨gl, τ.out (tr.drop dtrail), tr.take dtrail, ds, F', dtaken⟩, cs), by simp only; omega, ⟨hs7, C.mono hF, hX7, ?_, by simp only; omega, by simp only; omega⟩, zx7.mk (by simp -implicitDefEqProofs only [zy4, List.length_map, hcell4, hcutN, e1', e2', e4', e5', q1, q2, q4, q5, n1, n2, n4, n5, m1, m2, m4, m5, l1, l2, l4, l5, g1, g2, g4, g5, zy7.upd_same, one_same, evF, ↓evZ, implies_true, seval, tf_T4_151])⟩
     simpa using ht
end Go.AW
namespace Go.AW
theorem IX.node {p : List Cl} {M : Nat} {i : IS} (h : IX p M i) : IX p M { i with nn := i.nn + 1 } :=
 ⟨h.tnd, h.tin, h.phi, fun c hc => by obtain ⟨h1, h2, h3, h4⟩ := h.ch c hc; exact ⟨h1, by simp only; omega, h3, h4⟩, h.mono⟩
theorem IX.more {p : List Cl} {M : Nat} {i : IS} {σ' : Sub} {add : List Int} {gl : List IG} (h : IX p M i) (S : SolG (i.fresh : Int) i.σ σ' add) : IX p M { i with goals := gl, σ := σ', tr := i.tr ++ add } := by
 refine ⟨List.nodup_append.2 ⟨h.tnd, S.nodup, fun a ha b hb e => ?_⟩, fun n hn => ?_, h.phi, fun c hc => ?_, h.mono⟩
 · subst e
   exact (h.tin a ha).2 (S.new a hb).1
 · simp only [List.mem_append] at hn
   rcases hn with hn | hn
   · have h1 := h.tin n hn
     have hna : n ∉ add := fun ha => h1.2 (S.new n ha).1
     exact ⟨h1.1, by simp only; rw [S.keep n hna]; exact h1.2⟩
   · exact ⟨S.inN n hn, (S.new n hn).2⟩
 · obtain ⟨h1, h2, h3, h4⟩ := h.ch c hc
   exact ⟨h1, h2, by simp only [List.length_append]; omega, h4⟩
theorem IX.cut {p : List Cl} {M : Nat} {i : IS} {gl : List IG} (h : IX p M i) (k : Nat) : IX p M { i with goals := gl, chs := i.chs.take k } :=
 ⟨h.tnd, h.tin, by have := lsum_take i.chs k; have := h.phi; simp only; omega, fun c hc => h.ch c (List.mem_of_mem_take hc), h.mono.sublist (List.take_sublist _ _)⟩
def StepX (p : List Cl) (M : Nat) : IO' → Prop
 | .go s => IX p M s
 | .fail s => IX p M s
 | .stop _ => True
theorem iStep_X {p : List Cl} (hp : ∀ c ∈ p, ClX c) (hpl : p.length ≤ 20) {cnd : Tm → List Nat → List Nat} (hc : ∀ t l, (∀ i ∈ cnd t l, i ∈ l) ∧ (cnd t l).length ≤ l.length) {M : Nat} {i : IS} {g : IG} {rest : List IG} (h : IX p M i) (hg : IsGood i.σ) (ho : AllS (OkX i.fresh) i.σ) (hgo : OkX i.fresh g.t) :
 StepX p (M + 520) (iStep p cnd i g rest) := by
 have hU := h.up (M' := M + 520) (by omega)
 unfold iStep
 split
 · trivial
 rename_i hfit
 have hfit' : fitT (g.t.mapv (rs i.σ)) = true := by simpa using hfit
 have hok := fit_ok hg ho hgo hfit'
 generalize g.t.mapv (rs i.σ) = t at *
 split
 · exact (hU.cut (gl := rest) g.cut).node
 split
 · have S := solveG_sol hg ho t.s t.ts fun x hx => by
    obtain ⟨k, n, s', ts⟩ := t
    by_cases hk : k = 1
    · obtain ⟨_, _, _, h2⟩ := (show OkV i.fresh (.mk 1 n s' ts) from hk ▸ hok.1).var
      simp only [Tm.ts] at hx
      rw [h2] at hx; cases hx
    · exact okX_kids _ (.mk k n s' ts) hk hok x hx
   split
   · exact (hU.more (gl := rest) S).node
   · split
     · exact (hU.more (gl := i.goals) S).node
     · trivial
 split
 · trivial
 obtain ⟨c1, c2⟩ := hc t (forL p t)
 have hfl : (forL p t).length ≤ p.length := by
  have := List.length_filter_le (fun j => match p[j]? with | some c => hdOf c t | none => false) (List.range p.length)
  rw [List.length_range] at this
  exact this
 have hr : ∀ x ∈ cnd t (forL p t), x < p.length := fun x hx => by
  have := c1 x hx
  unfold forL at this
  exact List.mem_range.1 (List.mem_filter.1 this).1
 have hT := iTry_X hp (rest := rest) (cnd t (forL p t)) { i with nn := i.nn + 1 } hr (at' := i.nn) (by simp only; omega) (by have := h.phi; simp only; omega) hU.node hg ho hok
 split
 · exact hT
 · exact hT
end Go.AW
namespace Go.AW
open Go.Proofs.Tryz
theorem iTry_false {p : List Cl} {goal : Tm} {at' : Nat} {rest : List IG} : ∀ (l : List Nat) (s : IS), (iTry p goal at' rest l s).1 = false → ∃ F, (iTry p goal at' rest l s).2 = { s with fresh := F }
 | [], s, _ => ⟨s.fresh, by rw [iTry.eq_def]⟩
 | j :: l, s, h => by
  rw [iTry.eq_def] at h ⊢
  simp only at h ⊢
  split at h
  · exact ⟨s.fresh, rfl⟩
  · split at h
    · cases h
    · rename_i hu
      rw [if_neg hu]
      obtain ⟨F, e⟩ := iTry_false l { s with fresh := s.fresh + 26 } h
      exact ⟨F, e⟩
theorem iTry_nn {p : List Cl} {goal : Tm} {at' : Nat} {rest : List IG} : ∀ (l : List Nat) (s : IS), (iTry p goal at' rest l s).2.nn = s.nn
 | [], s => by rw [iTry.eq_def]
 | j :: l, s => by
  rw [iTry.eq_def]
  simp only
  split
  · rfl
  · split
    · rfl
    · exact iTry_nn l { s with fresh := s.fresh + 26 }
theorem Rl.facts {s : RS} {i : IS} (h : Rl s i) : IsGood i.σ ∧ AllS (OkX i.fresh) i.σ ∧ i.chs.length = s.chs.length ∧ i.goals.length = s.goals.length := by
 obtain ⟨ρ, S, G, C⟩ := h
 have := congrArg List.length G.1
 simp only [List.length_map] at this
 exact ⟨S.g2, S.o2, C.len, this⟩
theorem Rl.goal {s : RS} {i : IS} {h : IG} {hs : List IG} (hR : Rl s i) (hh : i.goals = h :: hs) : OkX i.fresh h.t ∧ h.t.k = 3 ∧ ∃ g gs, s.goals = g :: gs ∧ h.cut = g.keep := by
 obtain ⟨ρ, S, G, C⟩ := hR
 rw [hh] at G
 cases hg : s.goals with
 | nil => rw [hg] at G; exact absurd G.1 (by simp)
 | cons g gs =>
  rw [hg] at G
  have he := (List.cons.inj G.1).1
  simp only [Prod.mk.injEq] at he
  obtain ⟨e1, e2⟩ := he
  obtain ⟨h1, h2⟩ := G.2 g (by simp)
  rw [e1]
  exact ⟨S.renX h1, by rw [ren_k]; exact h2, g, gs, rfl, e2⟩
section
variable {p : List Cl} (hp : ∀ c ∈ p, ClX c) {cnd : Tm → List Nat → List Nat} (hc : ∀ (ρ : Int → Int) (t : Tm) (l : List Nat), cnd (ren ρ t) l = cnd t l)
include hp hc
theorem Rl.step {s : RS} {i : IS} {h : IG} {hs : List IG} (hR : Rl s i) (hh : i.goals = h :: hs) : ∃ g gs, s.goals = g :: gs ∧ match iStep p cnd i h hs with
 | .stop e => rStep p cnd s g gs = .stop e
 | .go i' => ∃ s', rStep p cnd s g gs = .go s' ∧ Rl s' i'
 | .fail i' => rStep p cnd s g gs = .fail ∧ ChR i'.fresh s.chs i'.chs i'.σ i'.tr := by
 obtain ⟨_, _, g, gs, hg, _⟩ := hR.goal hh
 obtain ⟨h', hs', e, k⟩ := step_sim hp hc hR hg
 rw [hh] at e
 cases e
 refine ⟨g, gs, hg, ?_⟩
 cases hr : rStep p cnd s g gs with
 | stop e => rw [hr] at k; simp only at k; rw [k]
 | go s' => rw [hr] at k; simp only at k; obtain ⟨i', e, k⟩ := k; rw [e]; exact ⟨s', rfl, k⟩
 | fail => rw [hr] at k; simp only at k; obtain ⟨i', e, k⟩ := k; rw [e]; exact ⟨rfl, k⟩
end
theorem forL_len (p : List Cl) (t : Tm) : (forL p t).length ≤ p.length := by
 have := List.length_filter_le (fun j => match p[j]? with | some c => hdOf c t | none => false) (List.range p.length)
 rw [List.length_range] at this
 exact this
theorem forL_lt (p : List Cl) (t : Tm) : ∀ x ∈ forL p t, x < p.length := fun x hx => by
 unfold forL at hx
 exact List.mem_range.1 (List.mem_filter.1 hx).1
theorem iBack_nn {p : List Cl} {N : Nat} {i' : IS} : ∀ (n : Nat) (i : IS), (∀ c ∈ i.chs, c.taken ≤ N) → iBack p n i = some i' → i'.nn ≤ N
 | 0, i, _, e => by simp [iBack] at e
 | n + 1, i, h, e => by
  rw [iBack] at e
  split at e
  · cases e
  · rename_i c hl
    split at e
    · cases e
      rw [iTry_nn]
      exact h c (List.mem_of_getLast? hl)
    · rename_i hf
      obtain ⟨F, e2⟩ := iTry_false _ _ (by simpa using hf)
      rw [e2] at e
      exact iBack_nn n _ (fun c hc => h c (List.dropLast_subset _ hc)) e
def StepN (k : Nat) : IO' → Prop
 | .go s => s.nn = k
 | .fail s => s.nn = k
 | .stop _ => True
theorem iStep_nn {p : List Cl} {cnd : Tm → List Nat → List Nat} {i : IS} {g : IG} {rest : List IG} : StepN (i.nn + 1) (iStep p cnd i g rest) := by
 unfold iStep
 split
 · trivial
 split
 · exact rfl
 split
 · split
   · exact rfl
   · split
     · exact rfl
     · trivial
 split
 · trivial
 split
 · exact iTry_nn _ _
 · exact iTry_nn _ _
def StopE : IO' → Prop
 | .stop e => e ≠ -1
 | _ => True
theorem iStep_stop {p : List Cl} {cnd : Tm → List Nat → List Nat} {i : IS} {g : IG} {rest : List IG} : StopE (iStep p cnd i g rest) := by
 unfold iStep
 split
 · exact (by decide : (3 : Int) ≠ -1)
 split
 · trivial
 split
 · split
   · trivial
   · split
     · trivial
     · show endC _ ≠ -1
       unfold endC
       split
       · decide
       · split
         · decide
         · split <;> decide
 split
 · exact (by decide : (8 : Int) ≠ -1)
 split <;> trivial
structure RI (p : List Cl) (B M k : Nat) (s : RS) (i : IS) : Prop where
 r : Rl s i
 a : RsA p B s
 x : IX p M i
 n : i.nn ≤ k
theorem RI.chl {p : List Cl} {B M k : Nat} {s : RS} {i : IS} (h : RI p B M k s i) : i.chs.length ≤ B := by rw [h.r.facts.2.2.1]; exact h.a.a.chl
theorem RI.cr {p : List Cl} {B M k : Nat} {s : RS} {i : IS} (h : RI p B M k s i) : ChR i.fresh s.chs i.chs i.σ i.tr := by obtain ⟨_, _, _, C⟩ := h.r; exact C
theorem RI.cut {p : List Cl} {B M k : Nat} {s : RS} {i : IS} {g : IG} {gs : List IG} (h : RI p B M k s i) (hg : i.goals = g :: gs) : g.cut ≤ i.chs.length := by
 obtain ⟨_, _, g', gs', e, e2⟩ := h.r.goal hg
 rw [e2, h.r.facts.2.2.1]
 have := h.a.k.goals.2 g' (by rw [e]; simp)
 exact this
section
variable {p : List Cl} (hp : ∀ c ∈ p, ClX c ∧ c.2.length ≤ 6) (hpl : p.length ≤ 20) {cnd : Tm → List Nat → List Nat} (hc : ∀ (ρ : Int → Int) (t : Tm) (l : List Nat), cnd (ren ρ t) l = cnd t l) (hd : ∀ t l, (∀ i ∈ cnd t l, i ∈ l) ∧ (cnd t l).length ≤ l.length)
include hp
theorem RI.backOf {B M k : Nat} (hB : B ≤ 524288) {s : RS} {i i' : IS} (ha : RsA p B s) (hC : ChR i.fresh s.chs i.chs i.σ i.tr) (hx : IX p M i) (hn : i.nn ≤ k) (e : iBack p i.chs.length i = some i') : ∃ s', RI p B M k s' i' := by
 have hp1 := fun c h => (hp c h).1
 have key := back_sim hp1 i.chs.length s.chs i hC
 cases hr : rBack p i.chs.length s.chs with
 | none => rw [hr] at key; simp only at key; rw [key] at e; cases e
 | some s' =>
  rw [hr] at key
  obtain ⟨i2, e2, R⟩ := key
  rw [e2] at e
  cases e
  rw [hC.len] at hr
  exact ⟨s', R, ha.back hp hB hr, iBack_X hp1 _ s.chs i hC hx i' e2, iBack_nn _ i (fun c hc => Nat.le_trans (hx.ch c hc).2.1 hn) e2⟩
theorem RI.back {B M k : Nat} (hB : B ≤ 524288) {s : RS} {i i' : IS} (h : RI p B M k s i) (e : iBack p i.chs.length i = some i') : ∃ s', RI p B M k s' i' :=
 RI.backOf hp hB h.a h.cr h.x h.n e
include hpl hc hd
theorem RI.step {B M k : Nat} (hB : B + 26 ≤ 524288) {s : RS} {i : IS} {g : IG} {gs : List IG} (h : RI p B M k s i) (hg : i.goals = g :: gs) : match iStep p cnd i g gs with
 | .stop e => True
 | .go i' => ∃ s', RI p (B + 26) (M + 520) (k + 1) s' i'
 | .fail i' => ChR i'.fresh s.chs i'.chs i'.σ i'.tr ∧ IX p (M + 520) i' ∧ i'.nn ≤ k + 1 ∧ ∀ i2, iBack p i'.chs.length i' = some i2 → ∃ s', RI p (B + 26) (M + 520) (k + 1) s' i2 := by
 have hp1 := fun c h => (hp c h).1
 have hn := iStep_nn (p := p) (cnd := cnd) (i := i) (g := g) (rest := gs)
 have hx := iStep_X hp1 hpl hd (rest := gs) h.x h.r.facts.1 h.r.facts.2.1 (h.r.goal hg).1
 obtain ⟨g', gs', e, k⟩ := h.r.step hp1 hc hg
 have hk := h.n
 cases hs : iStep p cnd i g gs with
 | stop e => trivial
 | go i' =>
  rw [hs] at hn hx k
  simp only [StepN, StepX] at hn hx k
  obtain ⟨s', e1, R⟩ := k
  exact ⟨s', R, h.a.step hp (by omega) hB hd e e1, hx, by omega⟩
 | fail i' =>
  rw [hs] at hn hx k
  simp only [StepN, StepX] at hn hx k
  obtain ⟨e1, C⟩ := k
  exact ⟨C, hx, by omega, fun i2 e2 => RI.backOf hp hB (h.a.up (by omega)) C hx (by omega) e2⟩
end
theorem RI.start {p : List Cl} {q : List Tm} (hq : ∀ t ∈ q, OkX 26 t ∧ t.k = 3) (h6 : q.length ≤ 6) : RI p 26 26 0 (rStart q) (iStart q) := by
 refine ⟨start_sim hq, RsA.start hq h6, ⟨List.nodup_nil, fun n hn => (by cases hn), (by show 26 + 26 * lsum [] ≤ 26; simp [lsum]), fun c hc => (by cases hc), List.Pairwise.nil⟩, Nat.le_refl _⟩
theorem iRun_nil {p : List Cl} {cnd : Tm → List Nat → List Nat} {vars : List Int} {most fuel : Nat} {s : IS} (hg : s.goals = []) : iRun p cnd vars most fuel s = if most = 0 then ([], 1) else match ansR s.σ vars with
 | none => ([], 3)
 | some a => match iBack p s.chs.length s with
  | none => ([a], 0)
  | some s' => (a :: (iRun p cnd vars (most - 1) fuel s').1, (iRun p cnd vars (most - 1) fuel s').2) := by
 rw [iRun.eq_def, hg]
 simp only
 split <;> rfl
theorem iRun_cons {p : List Cl} {cnd : Tm → List Nat → List Nat} {vars : List Int} {most fuel : Nat} {s : IS} {g : IG} {rest : List IG} (hg : s.goals = g :: rest) : iRun p cnd vars most fuel s = if fuel = 0 then ([], 2) else match iStep p cnd s g rest with
 | .stop e => ([], e)
 | .go s' => iRun p cnd vars most (fuel - 1) s'
 | .fail s' => match iBack p s'.chs.length s' with
  | none => ([], 0)
  | some s'' => iRun p cnd vars most (fuel - 1) s'' := by
 rw [iRun.eq_def, hg]
 simp only
 split <;> rfl
section
variable {st0 st : zy7} {S c m : Nat} {qt qc qn : AV} {p : List Cl} {q : List Tm} {idx : Bool} {fuel used mx : Int} {nd : List AV} {i : IS}
theorem SrA.acc {b : Nat} {l : List AV} (h : SrA st0 st S c m qt qc qn p q idx fuel used mx nd i) (hb : l ≠ [] → st b = none) : SrA (accS st0 b l) (accS st b l) S c m qt qc qn p q idx fuel used mx nd i := by
 cases l with
 | nil => exact h
 | cons x l =>
  have hn := hb (by simp)
  have hne : ∀ a ∈ srO S c m qt qc qn, accS st b (x :: l) a = st a := fun a ha => accS_ne (by rintro rfl; exact h.held a ha hn)
  have hne0 : ∀ a ∈ srO S c m qt qc qn, accS st0 b (x :: l) a = st0 a := fun a ha => accS_ne (by rintro rfl; exact h.held a ha hn)
  refine ⟨by rw [hne S (mem_srO.2 (.inl rfl))]; exact h.cell, h.sto.keepS (hne c (mem_srO.2 (.inr (.inl rfl)))) (hne m (mem_srO.2 (.inr (.inr (.inl rfl))))) (fun b hb => hne b (mem_srO.2 (.inr (.inr (.inr (.inl hb)))))),
   h.acC.keep fun b hb => hne b (mem_srO.2 (.inr (.inr (.inr (.inr (.inl hb)))))), h.acN.keep fun b hb => hne b (mem_srO.2 (.inr (.inr (.inr (.inr (.inr hb)))))), h.ndl, h.ndw, h.dis, fun a ha => by rw [hne0 a ha]; exact h.new a ha, fun a o ha => ?_⟩
  by_cases e : a = b
  · subst e
    rw [accS_cons (by simp), zy7.upd_same] at ha ⊢
    exact ha
  · rw [accS_ne e] at ha ⊢
    exact h.keep a o ha
theorem SrA.unacc {b : Nat} {l : List AV} {st2 : zy7} (h : SrA (accS st0 b l) st2 S c m qt qc qn p q idx fuel used mx nd i) (hb : l ≠ [] → st0 b = none) : ∃ s, st2 = accS s b l ∧ (l ≠ [] → s b = none) ∧ SrA st0 s S c m qt qc qn p q idx fuel used mx nd i := by
 cases l with
 | nil => exact ⟨st2, rfl, fun h => absurd rfl h, h⟩
 | cons x l =>
  have hn := hb (by simp)
  have h2 : st2 b = some (.cells ((x :: l).flatMap AV.cells)) := h.keep b _ (by rw [accS_cons (by simp), zy7.upd_same])
  have hbn : b ∉ srO S c m qt qc qn := fun hm => by
   have := h.new b hm
   rw [accS_cons (by simp), zy7.upd_same] at this
   cases this
  obtain ⟨s', hs'⟩ : ∃ s' : zy7, ∀ y, s' y = if y = b then none else st2 y := ⟨_, fun _ => rfl⟩
  have hne : ∀ a ∈ srO S c m qt qc qn, s' a = st2 a := fun a ha => by rw [hs', if_neg (by rintro rfl; exact hbn ha)]
  refine ⟨s', ?_, fun _ => by rw [hs', if_pos rfl], ?_⟩
  · funext y
    by_cases e : y = b
    · subst e; rw [accS_cons (by simp), zy7.upd_same, h2]
    · rw [accS_ne e, hs', if_neg e]
  · refine ⟨by rw [hne S (mem_srO.2 (.inl rfl))]; exact h.cell, h.sto.keepS (hne c (mem_srO.2 (.inr (.inl rfl)))) (hne m (mem_srO.2 (.inr (.inr (.inl rfl))))) (fun b hb => hne b (mem_srO.2 (.inr (.inr (.inr (.inl hb)))))),
     h.acC.keep fun b hb => hne b (mem_srO.2 (.inr (.inr (.inr (.inr (.inl hb)))))), h.acN.keep fun b hb => hne b (mem_srO.2 (.inr (.inr (.inr (.inr (.inr hb)))))), h.ndl, h.ndw, h.dis, fun a ha => ?_, fun a o ha => ?_⟩
    · have := h.new a ha
      rwa [accS_ne (by rintro rfl; exact hbn ha)] at this
    · have e : a ≠ b := by rintro rfl; rw [hn] at ha; cases ha
      rw [hs', if_neg e]
      exact h.keep a o (by rw [accS_ne e]; exact ha)
theorem ext_upd {st : zy7} {b : Nat} {o : AO} (h : st b = none) : ExtS st (st.upd b o) := fun x p hx => by
 rw [zy7.upd_ne _ _ (by rintro rfl; rw [h] at hx; cases hx)]; exact hx
theorem two_ext {S b : Nat} (hne : S ≠ b) (X Y : AO) : ∃ s0 : zy7, s0 S = some X ∧ s0 b = some Y ∧ ∀ st : zy7, st S = some X → st b = some Y → ExtS s0 st := by
 refine ⟨(one S X).upd b Y, by rw [zy7.upd_ne _ _ hne]; exact one_same, zy7.upd_same _ _ _, fun st h1 h2 x p hx => ?_⟩
 by_cases e : x = b
 · subst e; rw [zy7.upd_same] at hx; cases hx; exact h2
 · rw [zy7.upd_ne _ _ e] at hx; exact ext_one h1 x p hx
theorem SrA.box {b : Nat} {o : AO} (h : SrA st0 st S c m qt qc qn p q idx fuel used mx nd i) (hn : st b = none) : SrA (st0.upd b o) (st.upd b o) S c m qt qc qn p q idx fuel used mx nd i := by
 have hne : ∀ (s : zy7) a, a ∈ srO S c m qt qc qn → (s.upd b o) a = s a := fun s a ha => zy7.upd_ne _ _ (by rintro rfl; exact h.held a ha hn)
 refine ⟨by rw [hne _ S (mem_srO.2 (.inl rfl))]; exact h.cell, h.sto.keepS (hne _ c (mem_srO.2 (.inr (.inl rfl)))) (hne _ m (mem_srO.2 (.inr (.inr (.inl rfl))))) (fun b hb => hne _ b (mem_srO.2 (.inr (.inr (.inr (.inl hb)))))),
  h.acC.keep fun b hb => hne _ b (mem_srO.2 (.inr (.inr (.inr (.inr (.inl hb)))))), h.acN.keep fun b hb => hne _ b (mem_srO.2 (.inr (.inr (.inr (.inr (.inr hb)))))), h.ndl, h.ndw, h.dis, fun a ha => by rw [hne _ a ha]; exact h.new a ha, fun a o' ha => ?_⟩
 by_cases e : a = b
 · subst e
   rw [zy7.upd_same] at ha ⊢
   exact ha
 · rw [zy7.upd_ne _ _ e] at ha ⊢
   exact h.keep a o' ha
theorem SrA.unbox {b : Nat} {o : AO} (h : SrA (st0.upd b o) st S c m qt qc qn p q idx fuel used mx nd i) (hn : st0 b = none) : SrA st0 st S c m qt qc qn p q idx fuel used mx nd i := by
 refine ⟨h.cell, h.sto, h.acC, h.acN, h.ndl, h.ndw, h.dis, fun a ha => ?_, fun a o' ha => ?_⟩
 · have := h.new a ha
   by_cases e : a = b
   · subst e; exact hn
   · rwa [zy7.upd_ne _ _ e] at this
 · have e : a ≠ b := by rintro rfl; rw [hn] at ha; cases ha
   exact h.keep a o' (by rw [zy7.upd_ne _ _ e]; exact ha)
end
end Go.AW
