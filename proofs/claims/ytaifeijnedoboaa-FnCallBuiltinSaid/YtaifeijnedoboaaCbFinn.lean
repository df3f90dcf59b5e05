import Derived.Test.YtaifeijnedoboaaCbFinm
import Derived.Test.YtaifeijnedoboaaCbFinl
import Derived.Test.YtaifeijnedoboaaCbFinf
import Derived.Test.YtaifeijnedoboaaCbFinj

namespace Go.AW
open Go.Proofs.Try
set_option linter.unusedSimpArgs false
set_option maxRecDepth 100000
def CallPost (c m : Nat) (st : zy7) (code : Int) (σ : Sub) (r : AV) (st' : zy7) : Prop :=
  r = .int .i64 code ∧ (code = 0 → ∃ q', SubAt st' c m q' σ) ∧ ∀ x o, st x = some o → x ≠ c → x ≠ m → st' x = some o
theorem CallPost.same {c m : Nat} {st : zy7} {q : AV} {code : Int} {r : AV} (h : SubAt st c m q Sub.none) (hr : r = .int .i64 code) : CallPost c m st code Sub.none r st := ⟨hr, fun _ => ⟨q, h⟩, fun _ _ h _ _ => h⟩
theorem c_unify0 (a b : Tm) (ha : a.valid = true) (hb : b.valid = true) (c m : Nat) (st : zy7) (hS : Sto st c m (.fslice []) Sub.none []) :
    zq7 prog 43 [.ptr c 0, a.av, b.av] st (fun r st' => r = .bool (uniR a b).1 ∧ ∃ q', Sto st' c m q' (uniR a b).2.1 (uniR a b).2.2 ∧ StepQ c m st (.fslice []) st' q') := by
  obtain ⟨r, σ, tr, hU, hR⟩ := unif_of ha hb
  obtain ⟨g, hg⟩ := hU.run
  have hlen := nodup_V25 hU.uni.nodup hU.trV
  rw [hR]
  refine (c_unify g Sub.none a b r σ tr IsGood.none (fun n u h => (by cases h)) (Tm.okA_small a (Tm.valid_okA ha)) (Tm.okA_small b (Tm.valid_okA hb)) hg c m _ [] st hS (by simp only [List.length_nil]; omega)).mono ?_
  rintro _ s2 ⟨rfl, q', hS2, hQ2⟩
  exact ⟨rfl, q', hS2, hQ2⟩
theorem StepQ.all {c m : Nat} {st st' : zy7} {q' : AV} (h : StepQ c m st (.fslice []) st' q') : ∀ x o, st x = some o → x ≠ c → x ≠ m → st' x = some o := fun x o h0 h1 h2 => h.frame x o h0 h1 h2 (by simp [tbk])
theorem unif_out {a b : Tm} (ha : a.valid = true) (hb : b.valid = true) : (uniR a b).2.1.out (uniR a b).2.2 = Sub.none ∧ (uniR a b).2.2.length ≤ 26 := by
  obtain ⟨r, σ, tr, hU, hR⟩ := unif_of ha hb
  rw [hR]
  refine ⟨?_, nodup_V25 hU.uni.nodup hU.trV⟩
  funext n
  unfold Sub.out
  split
  · rfl
  · rename_i h; exact hU.uni.keep n h
theorem kids0 {ts : List Tm} (h : ts.length = 0) : ts = [] := List.eq_nil_of_length_eq_zero h
theorem kids1 {ts : List Tm} (h : ts.length = 1) : ∃ x, ts = [x] := by
  match ts, h with
  | [x], _ => exact ⟨x, rfl⟩
theorem kids2 {ts : List Tm} (h : ts.length = 2) : ∃ x y, ts = [x, y] := by
  match ts, h with
  | [x, y], _ => exact ⟨x, y, rfl⟩
theorem kids3 {ts : List Tm} (h : ts.length = 3) : ∃ x y z, ts = [x, y, z] := by
  match ts, h with
  | [x, y, z], _ => exact ⟨x, y, z, rfl⟩
abbrev tf_B5_15 := And.intro tI_2 (And.intro zI_2 (And.intro underlying2 (And.intro tI_3 (And.intro zI_3 (And.intro underlying3 (And.intro tI_4 (And.intro zI_4 (And.intro underlying4 (And.intro tI_5 (And.intro zI_5 (And.intro underlying5 (And.intro tI_6 (And.intro zI_6 (And.intro underlying6 (And.intro tI_7 (And.intro zI_7 (And.intro fI_7_0 (And.intro fI_7_1 (And.intro fI_7_2 (And.intro fI_7_3 (And.intro bI_7 (And.intro tI_8 (And.intro zI_8 (And.intro fI_8_0 (And.intro fI_8_1 (And.intro fI_8_2 (And.intro fI_8_3 (And.intro bI_8 (And.intro tI_9 (And.intro zI_9 (And.intro underlying9 (And.intro tI_10 (And.intro zI_10 (And.intro underlying10 (And.intro tI_11 (And.intro zI_11 (And.intro underlying11 (And.intro tI_12 (And.intro zI_12 (And.intro underlying12 (And.intro tI_13 (And.intro zI_13 (And.intro fI_13_0 (And.intro fI_13_1 (And.intro bI_13 (And.intro tI_14 (And.intro zI_14 (And.intro fI_14_0 (And.intro fI_14_1 (And.intro bI_14 (And.intro tI_15 (And.intro zI_15 (And.intro tI_16 (And.intro zI_16 (And.intro tI_17 (And.intro zI_17 (And.intro tI_18 (And.intro zI_18 (And.intro fI_18_0 (And.intro bI_18 (And.intro tI_19 (And.intro zI_19 (And.intro fI_19_0 (And.intro bI_19 (And.intro tI_21 (And.intro zI_21 (And.intro underlying21 (And.intro tI_22 (And.intro zI_22 (And.intro eI_22 (And.intro eB_22 (And.intro eZ_22 (And.intro underlying22 (And.intro tI_23 (And.intro zI_23 (And.intro eI_23 (And.intro eB_23 (And.intro eZ_23 (And.intro underlying23 (And.intro tI_24 (And.intro zI_24 (And.intro fI_24_0 (And.intro fI_24_1 (And.intro fI_24_2 (And.intro fI_24_3 (And.intro bI_24 (And.intro tI_25 (And.intro zI_25 (And.intro fI_25_0 (And.intro fI_25_1 (And.intro fI_25_2 (And.intro fI_25_3 (And.intro bI_25 (And.intro tI_27 (And.intro zI_27 (And.intro eI_27 (And.intro eB_27 (And.intro eZ_27 (And.intro underlying27 (And.intro tI_34 (And.intro zI_34 (And.intro tI_39 (And.intro zI_39 (And.intro tI_48 (And.intro zI_48 (And.intro fI_48_0 (And.intro fI_48_1 (And.intro bI_48 (And.intro tI_49 (And.intro zI_49 (And.intro fI_49_0 (And.intro fI_49_1 (And.intro bI_49 (And.intro tI_58 (And.intro zI_58 (And.intro fI_58_0 (And.intro fI_58_1 (And.intro bI_58 (And.intro tI_61 (And.intro zI_61 (And.intro eI_61 (And.intro eB_61 (And.intro eZ_61 (And.intro underlying61 (And.intro tI_63 (And.intro zI_63 (And.intro eI_63 (And.intro eB_63 (And.intro eZ_63 (And.intro underlying63 (And.intro tI_69 (And.intro zI_69 (And.intro fI_69_0 (And.intro fI_69_1 (And.intro bI_69 (And.intro tI_70 (And.intro zI_70 (And.intro fI_70_0 (And.intro fI_70_1 (And.intro bI_70 (And.intro tI_97 (And.intro zI_97 (And.intro underlying97 (And.intro tI_102 (And.intro zI_102 (And.intro fI_102_0 (And.intro fI_102_1 (And.intro fI_102_2 (And.intro fI_102_3 (And.intro bI_102 (And.intro tI_104 (And.intro zI_104 (And.intro aI_104 (And.intro tI_105 (And.intro zI_105 (And.intro bI_105 (And.intro tI_106 (And.intro zI_106 (And.intro bI_106 (And.intro tI_108 (And.intro zI_108 (And.intro underlying108 (And.intro tI_109 (And.intro zI_109 (And.intro underlying109 (And.intro tI_110 (And.intro zI_110 (And.intro underlying110 (And.intro tI_113 (And.intro zI_113 (And.intro underlying113 (And.intro tI_114 (And.intro zI_114 (And.intro underlying114 (And.intro tI_115 (And.intro zI_115 (And.intro fI_115_0 (And.intro fI_115_1 (And.intro fI_115_2 (And.intro fI_115_3 (And.intro fI_115_4 (And.intro fI_115_5 (And.intro fI_115_6 (And.intro fI_115_7 (And.intro fI_115_8 (And.intro fI_115_9 (And.intro fI_115_10 (And.intro bI_115 (And.intro tI_116 (And.intro zI_116 (And.intro fI_116_0 (And.intro fI_116_1 (And.intro fI_116_2 (And.intro fI_116_3 (And.intro fI_116_4 (And.intro fI_116_5 (And.intro fI_116_6 (And.intro fI_116_7 (And.intro fI_116_8 (And.intro fI_116_9 (And.intro fI_116_10 (And.intro bI_116 (And.intro tI_119 (And.intro zI_119 underlying119))))))))))))))))))))))))))))))))))))))))))))))))))))))))))))))))))))))))))))))))))))))))))))))))))))))))))))))))))))))))))))))))))))))))))))))))))))))))))))))))))))))))))))))))))))))))))))))))))))))))))))
theorem c_call (n : Int) (s : ByteArray) (ks : List Tm) (hb : isBuiltin s (ks.length : Int) = true) (hv : ∀ x ∈ ks, x.valid = true) (c m : Nat) (st : zy7) (hS : Sto st c m (.fslice []) Sub.none []) :
    zq7 prog 15 [.ptr c 0, (Tm.mk 3 n s ks).av] st (CallPost c m st (solveB s ks).1 (solveB s ks).2) := by
  have hcmp := c_compares 3 n s ks
  have hcs := bi_cases hb
  have hcpd := fun x y (hxy : ks = [x, y]) h => c_compared n s x y h (Tm.valid_okV (hv x (by simp [hxy]))) (Tm.valid_okV (hv y (by simp [hxy])))
  simp only [Tm.av_mk] at hcmp hcpd ⊢
  refine zw6 [1000000] func15 ntmps15 rfl rfl (by kernel_rfl) (by decide +kernel) (by show 2 ≤ _; decide +kernel) ?_
  intro _
  simp -implicitDefEqProofs only [List.length_map, evE, ↓evZ2, ↓evZ3, ↓Int.cast_ofNat_Int, implies_true, zy2, aFn, List.contains, List.elem, zq3, zy1, zq2, sub, zx3, zw2, zw3, zy3, gd, zq1, zw0, zq0, zx0, zx2, zx1, zy0, zw1, List.range', ↓reduceIte, reduceCtorEq, Nat.reduceEqDiff, Nat.reduceAdd, Nat.reduceLeDiff, Nat.reduceMul, Nat.reduceLT, Nat.reduceBEq, Int.reduceEq, tf_B5_15]
  refine (hcmp _).to ?_
  simp -implicitDefEqProofs only [List.length_map, evE, ↓evZ2, ↓evZ3, ↓Int.cast_ofNat_Int, implies_true, zy2, aFn, List.contains, List.elem, zq3, zy1, zq2, sub, zx3, zw2, zw3, zy3, gd, zq1, zw0, zq0, zx0, zx2, zx1, zy0, zw1, List.range', ↓reduceIte, reduceCtorEq, Nat.reduceEqDiff, Nat.reduceAdd, Nat.reduceLeDiff, Nat.reduceMul, Nat.reduceLT, Nat.reduceBEq, Int.reduceEq, tf_B5_15]
  refine zq4 (fun h => ?_) (fun h => ?_)
  · have h' : ks.length = 2 ∧ inN cmpNames s = true := by simp at h; exact ⟨by omega, h.2⟩
    obtain ⟨x, y, rfl⟩ := kids2 h'.1
    have e : solveB s [x, y] = (cmpC s x y, Sub.none) := by simp only [solveB]; rw [if_pos h'.2]
    rw [e]
    have hc := hcpd x y rfl h'.2
    simp only [List.map_cons, List.map_nil] at hc
    simp -implicitDefEqProofs only [List.length_map, evE, ↓evZ2, ↓evZ3, ↓Int.cast_ofNat_Int, implies_true, zy2, aFn, List.contains, List.elem, zq3, zy1, zq2, sub, zx3, zw2, zw3, zy3, gd, zq1, zw0, zq0, zx0, zx2, zx1, zy0, zw1, List.range', ↓reduceIte, reduceCtorEq, Nat.reduceEqDiff, Nat.reduceAdd, Nat.reduceLeDiff, Nat.reduceMul, Nat.reduceLT, Nat.reduceBEq, Int.reduceEq, tf_B5_15]
    refine (hc _).to ?_
    simp -implicitDefEqProofs only [List.length_map, evE, ↓evZ2, ↓evZ3, ↓Int.cast_ofNat_Int, implies_true, zy2, aFn, List.contains, List.elem, zq3, zy1, zq2, sub, zx3, zw2, zw3, zy3, gd, zq1, zw0, zq0, zx0, zx2, zx1, zy0, zw1, List.range', ↓reduceIte, reduceCtorEq, Nat.reduceEqDiff, Nat.reduceAdd, Nat.reduceLeDiff, Nat.reduceMul, Nat.reduceLT, Nat.reduceBEq, Int.reduceEq, tf_B5_15]
    exact CallPost.same hS.sub rfl
  have hnc : ks.length = 2 → inN cmpNames s = false := fun h2 => by simpa [h2] using h
  clear hcmp hcpd h
  simp -implicitDefEqProofs only [List.length_map, evE, ↓evZ2, ↓evZ3, ↓Int.cast_ofNat_Int, implies_true, zy2, aFn, List.contains, List.elem, zq3, zy1, zq2, sub, zx3, zw2, zw3, zy3, gd, zq1, zw0, zq0, zx0, zx2, zx1, zy0, zw1, List.range', ↓reduceIte, reduceCtorEq, Nat.reduceEqDiff, Nat.reduceAdd, Nat.reduceLeDiff, Nat.reduceMul, Nat.reduceLT, Nat.reduceBEq, Int.reduceEq, tf_B5_15]
  refine zq4 (fun h => ?_) (fun h => ?_)
  · have hs : s = ⟨#[116, 114, 117, 101]⟩ := by simpa using h
    have hk := kids0 (ts := ks) (by subst hs; simpa [isBuiltin] using hb)
    subst hk
    simp -implicitDefEqProofs only [List.length_map, evE, ↓evZ2, ↓evZ3, ↓Int.cast_ofNat_Int, implies_true, zy2, aFn, List.contains, List.elem, zq3, zy1, zq2, sub, zx3, zw2, zw3, zy3, gd, zq1, zw0, zq0, zx0, zx2, zx1, zy0, zw1, List.range', ↓reduceIte, reduceCtorEq, Nat.reduceEqDiff, Nat.reduceAdd, Nat.reduceLeDiff, Nat.reduceMul, Nat.reduceLT, Nat.reduceBEq, Int.reduceEq, tf_B5_15]
    exact CallPost.same hS.sub (by simp [solveB, codeB, hs])
  have ht : s ≠ ⟨#[116, 114, 117, 101]⟩ := by simpa using h
  simp -implicitDefEqProofs only [List.length_map, evE, ↓evZ2, ↓evZ3, ↓Int.cast_ofNat_Int, implies_true, zy2, aFn, List.contains, List.elem, zq3, zy1, zq2, sub, zx3, zw2, zw3, zy3, gd, zq1, zw0, zq0, zx0, zx2, zx1, zy0, zw1, List.range', ↓reduceIte, reduceCtorEq, Nat.reduceEqDiff, Nat.reduceAdd, Nat.reduceLeDiff, Nat.reduceMul, Nat.reduceLT, Nat.reduceBEq, Int.reduceEq, tf_B5_15]
  refine zq4 (fun h => ?_) (fun h => ?_)
  · have hs : s = ⟨#[102, 97, 105, 108]⟩ := by simpa using h
    have hk := kids0 (ts := ks) (by subst hs; simpa [isBuiltin] using hb)
    subst hk
    simp -implicitDefEqProofs only [List.length_map, evE, ↓evZ2, ↓evZ3, ↓Int.cast_ofNat_Int, implies_true, zy2, aFn, List.contains, List.elem, zq3, zy1, zq2, sub, zx3, zw2, zw3, zy3, gd, zq1, zw0, zq0, zx0, zx2, zx1, zy0, zw1, List.range', ↓reduceIte, reduceCtorEq, Nat.reduceEqDiff, Nat.reduceAdd, Nat.reduceLeDiff, Nat.reduceMul, Nat.reduceLT, Nat.reduceBEq, Int.reduceEq, tf_B5_15]
    exact CallPost.same hS.sub (by simp [solveB, codeB, hs])
  have hf : s ≠ ⟨#[102, 97, 105, 108]⟩ := by simpa using h
  simp -implicitDefEqProofs only [List.length_map, evE, ↓evZ2, ↓evZ3, ↓Int.cast_ofNat_Int, implies_true, zy2, aFn, List.contains, List.elem, zq3, zy1, zq2, sub, zx3, zw2, zw3, zy3, gd, zq1, zw0, zq0, zx0, zx2, zx1, zy0, zw1, List.range', ↓reduceIte, reduceCtorEq, Nat.reduceEqDiff, Nat.reduceAdd, Nat.reduceLeDiff, Nat.reduceMul, Nat.reduceLT, Nat.reduceBEq, Int.reduceEq, tf_B5_15]
  refine zq4 (fun h => ?_) (fun h => ?_)
  · have hs : s = ⟨#[61]⟩ := by simpa using h
    obtain ⟨x, y, rfl⟩ := kids2 (ts := ks) (by subst hs; simp [isBuiltin] at hb; omega)
    have e : solveB s [x, y] = uniC x y := by simp only [solveB]; rw [if_neg (by rw [hnc rfl]; simp), if_pos hs]
    rw [e]
    have hat0 : aIndexAddr prog 23 (.slice [x.av, y.av]) (.int .i64 0) = some (.pptr x.av) := ev_at (av := Tm.av) (l := [x, y]) (i := 0) eI_23 rfl (Tm.av_width x)
    have hat1 : aIndexAddr prog 23 (.slice [x.av, y.av]) (.int .i64 1) = some (.pptr y.av) := ev_at (av := Tm.av) (l := [x, y]) (i := 1) eI_23 rfl (Tm.av_width y)
    simp -implicitDefEqProofs only [hat0, hat1, Tm.av_agg, Tm.av_width, evE, ↓evZ2, ↓evZ3, ↓Int.cast_ofNat_Int, implies_true, zy2, aFn, List.contains, List.elem, zq3, zy1, zq2, sub, zx3, zw2, zw3, zy3, gd, zq1, zw0, zq0, zx0, zx2, zx1, zy0, zw1, List.range', ↓reduceIte, reduceCtorEq, Nat.reduceEqDiff, Nat.reduceAdd, Nat.reduceLeDiff, Nat.reduceMul, Nat.reduceLT, Nat.reduceBEq, Int.reduceEq, tf_B5_15]
    refine zq5 [(0, 1), (1, 1), (2, 1), (3, 1), (4, 1), (5, 1), (6, 1), (7, 0), (8, 0), (9, 1)] [0, 1, 2, 3, 4, 5, 6, 9] none0' mixed (by decide +kernel) (by decide +kernel) (by decide +kernel) rfl ext_none ?_
    simp -implicitDefEqProofs only [hat0, hat1, Tm.av_agg, Tm.av_width, evE, ↓evZ2, ↓evZ3, ↓Int.cast_ofNat_Int, implies_true, zy2, aFn, List.contains, List.elem, zq3, zy1, zq2, sub, zx3, zw2, zw3, zy3, gd, zq1, zw0, zq0, zx0, zx2, zx1, zy0, zw1, List.range', ↓reduceIte, reduceCtorEq, Nat.reduceEqDiff, Nat.reduceAdd, Nat.reduceLeDiff, Nat.reduceMul, Nat.reduceLT, Nat.reduceBEq, Int.reduceEq, tf_B5_15]
    refine (c_unify0 x y (hv x (by simp)) (hv y (by simp)) c m _ hS).mono ?_
    rintro _ s2 ⟨rfl, q', hS2, hQ2⟩
    simp -implicitDefEqProofs only [hat0, hat1, Tm.av_agg, Tm.av_width, evE, ↓evZ2, ↓evZ3, ↓Int.cast_ofNat_Int, implies_true, zy2, aFn, List.contains, List.elem, zq3, zy1, zq2, sub, zx3, zw2, zw3, zy3, gd, zq1, zw0, zq0, zx0, zx2, zx1, zy0, zw1, List.range', ↓reduceIte, reduceCtorEq, Nat.reduceEqDiff, Nat.reduceAdd, Nat.reduceLeDiff, Nat.reduceMul, Nat.reduceLT, Nat.reduceBEq, Int.reduceEq, tf_B5_15]
    refine ⟨ext_none, ?_⟩
    refine (c_holds _ _).to ?_
    simp -implicitDefEqProofs only [hat0, hat1, Tm.av_agg, Tm.av_width, evE, ↓evZ2, ↓evZ3, ↓Int.cast_ofNat_Int, implies_true, zy2, aFn, List.contains, List.elem, zq3, zy1, zq2, sub, zx3, zw2, zw3, zy3, gd, zq1, zw0, zq0, zx0, zx2, zx1, zy0, zw1, List.range', ↓reduceIte, reduceCtorEq, Nat.reduceEqDiff, Nat.reduceAdd, Nat.reduceLeDiff, Nat.reduceMul, Nat.reduceLT, Nat.reduceBEq, Int.reduceEq, tf_B5_15]
    exact ⟨ext_none, rfl, fun _ => ⟨q', hS2.sub⟩, hQ2.all⟩
  have he : s ≠ ⟨#[61]⟩ := by simpa using h
  simp -implicitDefEqProofs only [List.length_map, evE, ↓evZ2, ↓evZ3, ↓Int.cast_ofNat_Int, implies_true, zy2, aFn, List.contains, List.elem, zq3, zy1, zq2, sub, zx3, zw2, zw3, zy3, gd, zq1, zw0, zq0, zx0, zx2, zx1, zy0, zw1, List.range', ↓reduceIte, reduceCtorEq, Nat.reduceEqDiff, Nat.reduceAdd, Nat.reduceLeDiff, Nat.reduceMul, Nat.reduceLT, Nat.reduceBEq, Int.reduceEq, tf_B5_15]
  refine zq4 (fun h => ?_) (fun h => ?_)
  · have hs : s = ⟨#[92, 61]⟩ := by simpa using h
    obtain ⟨x, y, rfl⟩ := kids2 (ts := ks) (by subst hs; simp [isBuiltin] at hb; omega)
    have e : solveB s [x, y] = (codeB (!(uniR x y).1), Sub.none) := by simp only [solveB]; rw [if_neg (by rw [hnc rfl]; simp), if_neg he, if_pos hs]
    rw [e]
    have e1 := hS.sub.cells
    have hat0 : aIndexAddr prog 23 (.slice [x.av, y.av]) (.int .i64 0) = some (.pptr x.av) := ev_at (av := Tm.av) (l := [x, y]) (i := 0) eI_23 rfl (Tm.av_width x)
    have hat1 : aIndexAddr prog 23 (.slice [x.av, y.av]) (.int .i64 1) = some (.pptr y.av) := ev_at (av := Tm.av) (l := [x, y]) (i := 1) eI_23 rfl (Tm.av_width y)
    simp -implicitDefEqProofs only [hat0, hat1, Tm.av_agg, Tm.av_width, e1, List.length_nil, evE, ↓evZ2, ↓evZ3, ↓Int.cast_ofNat_Int, implies_true, zy2, aFn, List.contains, List.elem, zq3, zy1, zq2, sub, zx3, zw2, zw3, zy3, gd, zq1, zw0, zq0, zx0, zx2, zx1, zy0, zw1, List.range', ↓reduceIte, reduceCtorEq, Nat.reduceEqDiff, Nat.reduceAdd, Nat.reduceLeDiff, Nat.reduceMul, Nat.reduceLT, Nat.reduceBEq, Int.reduceEq, tf_B5_15]
    refine zq5 [(0, 1), (1, 1), (2, 1), (3, 1), (4, 1), (5, 1), (6, 1), (7, 0), (8, 1)] [0, 1, 2, 3, 4, 5, 6, 8] none0' mixed (by decide +kernel) (by decide +kernel) (by decide +kernel) rfl ext_none ?_
    simp -implicitDefEqProofs only [hat0, hat1, Tm.av_agg, Tm.av_width, e1, List.length_nil, evE, ↓evZ2, ↓evZ3, ↓Int.cast_ofNat_Int, implies_true, zy2, aFn, List.contains, List.elem, zq3, zy1, zq2, sub, zx3, zw2, zw3, zy3, gd, zq1, zw0, zq0, zx0, zx2, zx1, zy0, zw1, List.range', ↓reduceIte, reduceCtorEq, Nat.reduceEqDiff, Nat.reduceAdd, Nat.reduceLeDiff, Nat.reduceMul, Nat.reduceLT, Nat.reduceBEq, Int.reduceEq, tf_B5_15]
    refine (c_unify0 x y (hv x (by simp)) (hv y (by simp)) c m _ hS).mono ?_
    rintro _ s2 ⟨rfl, q', hS2, hQ2⟩
    obtain ⟨hz, hl26⟩ := unif_out (hv x (by simp)) (hv y (by simp))
    simp -implicitDefEqProofs only [hat0, hat1, Tm.av_agg, Tm.av_width, e1, List.length_nil, evE, ↓evZ2, ↓evZ3, ↓Int.cast_ofNat_Int, implies_true, zy2, aFn, List.contains, List.elem, zq3, zy1, zq2, sub, zx3, zw2, zw3, zy3, gd, zq1, zw0, zq0, zx0, zx2, zx1, zy0, zw1, List.range', ↓reduceIte, reduceCtorEq, Nat.reduceEqDiff, Nat.reduceAdd, Nat.reduceLeDiff, Nat.reduceMul, Nat.reduceLT, Nat.reduceBEq, Int.reduceEq, tf_B5_15]
    refine ⟨ext_none, ?_⟩
    refine (c_undo _ _ hz c m q' s2 hS2 (by omega)).mono ?_
    rintro _ s3 ⟨rfl, q2, hS3, hk3⟩
    simp -implicitDefEqProofs only [hat0, hat1, Tm.av_agg, Tm.av_width, e1, List.length_nil, evE, ↓evZ2, ↓evZ3, ↓Int.cast_ofNat_Int, implies_true, zy2, aFn, List.contains, List.elem, zq3, zy1, zq2, sub, zx3, zw2, zw3, zy3, gd, zq1, zw0, zq0, zx0, zx2, zx1, zy0, zw1, List.range', ↓reduceIte, reduceCtorEq, Nat.reduceEqDiff, Nat.reduceAdd, Nat.reduceLeDiff, Nat.reduceMul, Nat.reduceLT, Nat.reduceBEq, Int.reduceEq, tf_B5_15]
    refine (c_holds _ _).to ?_
    simp -implicitDefEqProofs only [hat0, hat1, Tm.av_agg, Tm.av_width, e1, List.length_nil, evE, ↓evZ2, ↓evZ3, ↓Int.cast_ofNat_Int, implies_true, zy2, aFn, List.contains, List.elem, zq3, zy1, zq2, sub, zx3, zw2, zw3, zy3, gd, zq1, zw0, zq0, zx0, zx2, zx1, zy0, zw1, List.range', ↓reduceIte, reduceCtorEq, Nat.reduceEqDiff, Nat.reduceAdd, Nat.reduceLeDiff, Nat.reduceMul, Nat.reduceLT, Nat.reduceBEq, Int.reduceEq, tf_B5_15]
    exact ⟨rfl, fun _ => ⟨q2, hS3⟩, fun x o h0 h1 h2 => hk3 x o (hQ2.all x o h0 h1 h2) h1 h2⟩
  have hne : s ≠ ⟨#[92, 61]⟩ := by simpa using h
  simp -implicitDefEqProofs only [List.length_map, evE, ↓evZ2, ↓evZ3, ↓Int.cast_ofNat_Int, implies_true, zy2, aFn, List.contains, List.elem, zq3, zy1, zq2, sub, zx3, zw2, zw3, zy3, gd, zq1, zw0, zq0, zx0, zx2, zx1, zy0, zw1, List.range', ↓reduceIte, reduceCtorEq, Nat.reduceEqDiff, Nat.reduceAdd, Nat.reduceLeDiff, Nat.reduceMul, Nat.reduceLT, Nat.reduceBEq, Int.reduceEq, tf_B5_15]
  refine zq4 (fun h => ?_) (fun h => ?_)
  · have hs : s = ⟨#[61, 61]⟩ := by simpa using h
    obtain ⟨x, y, rfl⟩ := kids2 (ts := ks) (by subst hs; simp [isBuiltin] at hb; omega)
    have e : solveB s [x, y] = (codeB (x.same y), Sub.none) := by simp only [solveB]; rw [if_neg (by rw [hnc rfl]; simp), if_neg he, if_neg hne, if_pos hs]
    rw [e]
    have hat0 : aIndexAddr prog 23 (.slice [x.av, y.av]) (.int .i64 0) = some (.pptr x.av) := ev_at (av := Tm.av) (l := [x, y]) (i := 0) eI_23 rfl (Tm.av_width x)
    have hat1 : aIndexAddr prog 23 (.slice [x.av, y.av]) (.int .i64 1) = some (.pptr y.av) := ev_at (av := Tm.av) (l := [x, y]) (i := 1) eI_23 rfl (Tm.av_width y)
    simp -implicitDefEqProofs only [hat0, hat1, Tm.av_agg, Tm.av_width, evE, ↓evZ2, ↓evZ3, ↓Int.cast_ofNat_Int, implies_true, zy2, aFn, List.contains, List.elem, zq3, zy1, zq2, sub, zx3, zw2, zw3, zy3, gd, zq1, zw0, zq0, zx0, zx2, zx1, zy0, zw1, List.range', ↓reduceIte, reduceCtorEq, Nat.reduceEqDiff, Nat.reduceAdd, Nat.reduceLeDiff, Nat.reduceMul, Nat.reduceLT, Nat.reduceBEq, Int.reduceEq, tf_B5_15]
    refine arun_drawA mixed (by decide +kernel) (by decide +kernel) ?_
    simp -implicitDefEqProofs only [hat0, hat1, Tm.av_agg, Tm.av_width, evE, ↓evZ2, ↓evZ3, ↓Int.cast_ofNat_Int, implies_true, zy2, aFn, List.contains, List.elem, zq3, zy1, zq2, sub, zx3, zw2, zw3, zy3, gd, zq1, zw0, zq0, zx0, zx2, zx1, zy0, zw1, List.range', ↓reduceIte, reduceCtorEq, Nat.reduceEqDiff, Nat.reduceAdd, Nat.reduceLeDiff, Nat.reduceMul, Nat.reduceLT, Nat.reduceBEq, Int.reduceEq, tf_B5_15]
    refine zw4 (c_impl_TermSame x y _) ?_
    simp -implicitDefEqProofs only [hat0, hat1, Tm.av_agg, Tm.av_width, evE, ↓evZ2, ↓evZ3, ↓Int.cast_ofNat_Int, implies_true, zy2, aFn, List.contains, List.elem, zq3, zy1, zq2, sub, zx3, zw2, zw3, zy3, gd, zq1, zw0, zq0, zx0, zx2, zx1, zy0, zw1, List.range', ↓reduceIte, reduceCtorEq, Nat.reduceEqDiff, Nat.reduceAdd, Nat.reduceLeDiff, Nat.reduceMul, Nat.reduceLT, Nat.reduceBEq, Int.reduceEq, tf_B5_15]
    refine zw4 (c_holds _ _) ?_
    simp -implicitDefEqProofs only [hat0, hat1, Tm.av_agg, Tm.av_width, evE, ↓evZ2, ↓evZ3, ↓Int.cast_ofNat_Int, implies_true, zy2, aFn, List.contains, List.elem, zq3, zy1, zq2, sub, zx3, zw2, zw3, zy3, gd, zq1, zw0, zq0, zx0, zx2, zx1, zy0, zw1, List.range', ↓reduceIte, reduceCtorEq, Nat.reduceEqDiff, Nat.reduceAdd, Nat.reduceLeDiff, Nat.reduceMul, Nat.reduceLT, Nat.reduceBEq, Int.reduceEq, tf_B5_15]
    exact CallPost.same hS.sub rfl
  have hee : s ≠ ⟨#[61, 61]⟩ := by simpa using h
  simp -implicitDefEqProofs only [List.length_map, evE, ↓evZ2, ↓evZ3, ↓Int.cast_ofNat_Int, implies_true, zy2, aFn, List.contains, List.elem, zq3, zy1, zq2, sub, zx3, zw2, zw3, zy3, gd, zq1, zw0, zq0, zx0, zx2, zx1, zy0, zw1, List.range', ↓reduceIte, reduceCtorEq, Nat.reduceEqDiff, Nat.reduceAdd, Nat.reduceLeDiff, Nat.reduceMul, Nat.reduceLT, Nat.reduceBEq, Int.reduceEq, tf_B5_15]
  refine zq4 (fun h => ?_) (fun h => ?_)
  · have hs : s = ⟨#[105, 115]⟩ := by simpa using h
    obtain ⟨x, y, rfl⟩ := kids2 (ts := ks) (by subst hs; simp [isBuiltin] at hb; omega)
    have e : solveB s [x, y] = if y.ev.2 ≠ 0 then (y.ev.2, Sub.none) else uniC x (itm y.ev.1) := by simp only [solveB]; rw [if_neg (by rw [hnc rfl]; simp), if_neg he, if_neg hne, if_neg hee]
    rw [e]
    have hy := hv y (by simp)
    have hin := itm_valid (Tm.ev_in y (Tm.valid_okV hy))
    have har := fun st => c_arith y st (Tm.valid_okV hy)
    generalize y.ev.1 = a at *
    generalize y.ev.2 = ca at *
    have hat0 : aIndexAddr prog 23 (.slice [x.av, y.av]) (.int .i64 0) = some (.pptr x.av) := ev_at (av := Tm.av) (l := [x, y]) (i := 0) eI_23 rfl (Tm.av_width x)
    have hat1 : aIndexAddr prog 23 (.slice [x.av, y.av]) (.int .i64 1) = some (.pptr y.av) := ev_at (av := Tm.av) (l := [x, y]) (i := 1) eI_23 rfl (Tm.av_width y)
    simp -implicitDefEqProofs only [hat0, hat1, Tm.av_agg, Tm.av_width, evE, ↓evZ2, ↓evZ3, ↓Int.cast_ofNat_Int, implies_true, zy2, aFn, List.contains, List.elem, zq3, zy1, zq2, sub, zx3, zw2, zw3, zy3, gd, zq1, zw0, zq0, zx0, zx2, zx1, zy0, zw1, List.range', ↓reduceIte, reduceCtorEq, Nat.reduceEqDiff, Nat.reduceAdd, Nat.reduceLeDiff, Nat.reduceMul, Nat.reduceLT, Nat.reduceBEq, Int.reduceEq, tf_B5_15]
    refine (har _).to ?_
    simp -implicitDefEqProofs only [hat0, hat1, Tm.av_agg, Tm.av_width, evE, ↓evZ2, ↓evZ3, ↓Int.cast_ofNat_Int, implies_true, zy2, aFn, List.contains, List.elem, zq3, zy1, zq2, sub, zx3, zw2, zw3, zy3, gd, zq1, zw0, zq0, zx0, zx2, zx1, zy0, zw1, List.range', ↓reduceIte, reduceCtorEq, Nat.reduceEqDiff, Nat.reduceAdd, Nat.reduceLeDiff, Nat.reduceMul, Nat.reduceLT, Nat.reduceBEq, Int.reduceEq, tf_B5_15]
    refine zq4 (fun h4 => ?_) (fun h4 => ?_)
    · simp -implicitDefEqProofs only [hat0, hat1, Tm.av_agg, Tm.av_width, evE, ↓evZ2, ↓evZ3, ↓Int.cast_ofNat_Int, implies_true, zy2, aFn, List.contains, List.elem, zq3, zy1, zq2, sub, zx3, zw2, zw3, zy3, gd, zq1, zw0, zq0, zx0, zx2, zx1, zy0, zw1, List.range', ↓reduceIte, reduceCtorEq, Nat.reduceEqDiff, Nat.reduceAdd, Nat.reduceLeDiff, Nat.reduceMul, Nat.reduceLT, Nat.reduceBEq, Int.reduceEq, tf_B5_15]
      have h4' : ca ≠ 0 := by simpa using h4
      rw [if_pos h4']
      exact CallPost.same hS.sub rfl
    have h4' : ca = 0 := by simpa using h4
    subst h4'
    rw [if_neg (by simp)]
    simp -implicitDefEqProofs only [hat0, hat1, Tm.av_agg, Tm.av_width, evE, ↓evZ2, ↓evZ3, ↓Int.cast_ofNat_Int, implies_true, zy2, aFn, List.contains, List.elem, zq3, zy1, zq2, sub, zx3, zw2, zw3, zy3, gd, zq1, zw0, zq0, zx0, zx2, zx1, zy0, zw1, List.range', ↓reduceIte, reduceCtorEq, Nat.reduceEqDiff, Nat.reduceAdd, Nat.reduceLeDiff, Nat.reduceMul, Nat.reduceLT, Nat.reduceBEq, Int.reduceEq, tf_B5_15]
    refine zq5 [(0, 1), (1, 1), (2, 1), (3, 1), (4, 1), (5, 0), (6, 0), (7, 0), (8, 1)] [0, 1, 2, 3, 4, 8] none0' mixed (by decide +kernel) (by decide +kernel) (by decide +kernel) rfl ext_none ?_
    simp -implicitDefEqProofs only [hat0, hat1, Tm.av_agg, Tm.av_width, evE, ↓evZ2, ↓evZ3, ↓Int.cast_ofNat_Int, implies_true, zy2, aFn, List.contains, List.elem, zq3, zy1, zq2, sub, zx3, zw2, zw3, zy3, gd, zq1, zw0, zq0, zx0, zx2, zx1, zy0, zw1, List.range', ↓reduceIte, reduceCtorEq, Nat.reduceEqDiff, Nat.reduceAdd, Nat.reduceLeDiff, Nat.reduceMul, Nat.reduceLT, Nat.reduceBEq, Int.reduceEq, tf_B5_15]
    refine (c_number a _).to ?_
    simp -implicitDefEqProofs only [hat0, hat1, Tm.av_agg, Tm.av_width, evE, ↓evZ2, ↓evZ3, ↓Int.cast_ofNat_Int, implies_true, zy2, aFn, List.contains, List.elem, zq3, zy1, zq2, sub, zx3, zw2, zw3, zy3, gd, zq1, zw0, zq0, zx0, zx2, zx1, zy0, zw1, List.range', ↓reduceIte, reduceCtorEq, Nat.reduceEqDiff, Nat.reduceAdd, Nat.reduceLeDiff, Nat.reduceMul, Nat.reduceLT, Nat.reduceBEq, Int.reduceEq, tf_B5_15]
    refine ⟨ext_none, ?_⟩
    refine (c_unify0 x (itm a) (hv x (by simp)) hin c m _ hS).mono ?_
    rintro _ s2 ⟨rfl, q', hS2, hQ2⟩
    simp -implicitDefEqProofs only [hat0, hat1, Tm.av_agg, Tm.av_width, evE, ↓evZ2, ↓evZ3, ↓Int.cast_ofNat_Int, implies_true, zy2, aFn, List.contains, List.elem, zq3, zy1, zq2, sub, zx3, zw2, zw3, zy3, gd, zq1, zw0, zq0, zx0, zx2, zx1, zy0, zw1, List.range', ↓reduceIte, reduceCtorEq, Nat.reduceEqDiff, Nat.reduceAdd, Nat.reduceLeDiff, Nat.reduceMul, Nat.reduceLT, Nat.reduceBEq, Int.reduceEq, tf_B5_15]
    refine ⟨ext_none, ?_⟩
    refine (c_holds _ _).to ?_
    simp -implicitDefEqProofs only [hat0, hat1, Tm.av_agg, Tm.av_width, evE, ↓evZ2, ↓evZ3, ↓Int.cast_ofNat_Int, implies_true, zy2, aFn, List.contains, List.elem, zq3, zy1, zq2, sub, zx3, zw2, zw3, zy3, gd, zq1, zw0, zq0, zx0, zx2, zx1, zy0, zw1, List.range', ↓reduceIte, reduceCtorEq, Nat.reduceEqDiff, Nat.reduceAdd, Nat.reduceLeDiff, Nat.reduceMul, Nat.reduceLT, Nat.reduceBEq, Int.reduceEq, tf_B5_15]
    exact ⟨ext_none, rfl, fun _ => ⟨q', hS2.sub⟩, hQ2.all⟩
  have his : s ≠ ⟨#[105, 115]⟩ := by simpa using h
  simp -implicitDefEqProofs only [List.length_map, evE, ↓evZ2, ↓evZ3, ↓Int.cast_ofNat_Int, implies_true, zy2, aFn, List.contains, List.elem, zq3, zy1, zq2, sub, zx3, zw2, zw3, zy3, gd, zq1, zw0, zq0, zx0, zx2, zx1, zy0, zw1, List.range', ↓reduceIte, reduceCtorEq, Nat.reduceEqDiff, Nat.reduceAdd, Nat.reduceLeDiff, Nat.reduceMul, Nat.reduceLT, Nat.reduceBEq, Int.reduceEq, tf_B5_15]
  refine zq4 (fun h => ?_) (fun h => ?_)
  · have hs : s = ⟨#[118, 97, 114]⟩ := by simpa using h
    obtain ⟨x, rfl⟩ := kids1 (ts := ks) (by subst hs; simp [isBuiltin] at hb; omega)
    have e : solveB s [x] = (codeB (testB s x), Sub.none) := rfl
    rw [e]
    subst hs
    obtain ⟨xk, xn, xs, xt⟩ := x
    have hat0 : aIndexAddr prog 23 (.slice [(Tm.mk xk xn xs xt).av]) (.int .i64 0) = some (.pptr (Tm.mk xk xn xs xt).av) := ev_at (av := Tm.av) (l := [Tm.mk xk xn xs xt]) (i := 0) eI_23 rfl (Tm.av_width _)
    have eat := c_isAtom xk xn xs xt
    simp only [Tm.av_mk] at hat0 eat
    simp only [List.map_cons, List.map_nil, Tm.av_mk]
    simp -implicitDefEqProofs only [hat0, evE, ↓evZ2, ↓evZ3, ↓Int.cast_ofNat_Int, implies_true, zy2, aFn, List.contains, List.elem, zq3, zy1, zq2, sub, zx3, zw2, zw3, zy3, gd, zq1, zw0, zq0, zx0, zx2, zx1, zy0, zw1, List.range', ↓reduceIte, reduceCtorEq, Nat.reduceEqDiff, Nat.reduceAdd, Nat.reduceLeDiff, Nat.reduceMul, Nat.reduceLT, Nat.reduceBEq, Int.reduceEq, tf_B5_15]
    refine (c_holds _ _).to ?_
    simp -implicitDefEqProofs only [hat0, evE, ↓evZ2, ↓evZ3, ↓Int.cast_ofNat_Int, implies_true, zy2, aFn, List.contains, List.elem, zq3, zy1, zq2, sub, zx3, zw2, zw3, zy3, gd, zq1, zw0, zq0, zx0, zx2, zx1, zy0, zw1, List.range', ↓reduceIte, reduceCtorEq, Nat.reduceEqDiff, Nat.reduceAdd, Nat.reduceLeDiff, Nat.reduceMul, Nat.reduceLT, Nat.reduceBEq, Int.reduceEq, tf_B5_15]
    exact CallPost.same hS.sub rfl
  have hva : s ≠ ⟨#[118, 97, 114]⟩ := by simpa using h
  simp -implicitDefEqProofs only [List.length_map, evE, ↓evZ2, ↓evZ3, ↓Int.cast_ofNat_Int, implies_true, zy2, aFn, List.contains, List.elem, zq3, zy1, zq2, sub, zx3, zw2, zw3, zy3, gd, zq1, zw0, zq0, zx0, zx2, zx1, zy0, zw1, List.range', ↓reduceIte, reduceCtorEq, Nat.reduceEqDiff, Nat.reduceAdd, Nat.reduceLeDiff, Nat.reduceMul, Nat.reduceLT, Nat.reduceBEq, Int.reduceEq, tf_B5_15]
  refine zq4 (fun h => ?_) (fun h => ?_)
  · have hs : s = ⟨#[110, 111, 110, 118, 97, 114]⟩ := by simpa using h
    obtain ⟨x, rfl⟩ := kids1 (ts := ks) (by subst hs; simp [isBuiltin] at hb; omega)
    have e : solveB s [x] = (codeB (testB s x), Sub.none) := rfl
    rw [e]
    subst hs
    obtain ⟨xk, xn, xs, xt⟩ := x
    have hat0 : aIndexAddr prog 23 (.slice [(Tm.mk xk xn xs xt).av]) (.int .i64 0) = some (.pptr (Tm.mk xk xn xs xt).av) := ev_at (av := Tm.av) (l := [Tm.mk xk xn xs xt]) (i := 0) eI_23 rfl (Tm.av_width _)
    have eat := c_isAtom xk xn xs xt
    simp only [Tm.av_mk] at hat0 eat
    simp only [List.map_cons, List.map_nil, Tm.av_mk]
    simp -implicitDefEqProofs only [hat0, evE, ↓evZ2, ↓evZ3, ↓Int.cast_ofNat_Int, implies_true, zy2, aFn, List.contains, List.elem, zq3, zy1, zq2, sub, zx3, zw2, zw3, zy3, gd, zq1, zw0, zq0, zx0, zx2, zx1, zy0, zw1, List.range', ↓reduceIte, reduceCtorEq, Nat.reduceEqDiff, Nat.reduceAdd, Nat.reduceLeDiff, Nat.reduceMul, Nat.reduceLT, Nat.reduceBEq, Int.reduceEq, tf_B5_15]
    refine (c_holds _ _).to ?_
    simp -implicitDefEqProofs only [hat0, evE, ↓evZ2, ↓evZ3, ↓Int.cast_ofNat_Int, implies_true, zy2, aFn, List.contains, List.elem, zq3, zy1, zq2, sub, zx3, zw2, zw3, zy3, gd, zq1, zw0, zq0, zx0, zx2, zx1, zy0, zw1, List.range', ↓reduceIte, reduceCtorEq, Nat.reduceEqDiff, Nat.reduceAdd, Nat.reduceLeDiff, Nat.reduceMul, Nat.reduceLT, Nat.reduceBEq, Int.reduceEq, tf_B5_15]
    exact CallPost.same hS.sub rfl
  have hnv : s ≠ ⟨#[110, 111, 110, 118, 97, 114]⟩ := by simpa using h
  simp -implicitDefEqProofs only [List.length_map, evE, ↓evZ2, ↓evZ3, ↓Int.cast_ofNat_Int, implies_true, zy2, aFn, List.contains, List.elem, zq3, zy1, zq2, sub, zx3, zw2, zw3, zy3, gd, zq1, zw0, zq0, zx0, zx2, zx1, zy0, zw1, List.range', ↓reduceIte, reduceCtorEq, Nat.reduceEqDiff, Nat.reduceAdd, Nat.reduceLeDiff, Nat.reduceMul, Nat.reduceLT, Nat.reduceBEq, Int.reduceEq, tf_B5_15]
  refine zq4 (fun h => ?_) (fun h => ?_)
  · have hs : s = ⟨#[97, 116, 111, 109]⟩ := by simpa using h
    obtain ⟨x, rfl⟩ := kids1 (ts := ks) (by subst hs; simp [isBuiltin] at hb; omega)
    have e : solveB s [x] = (codeB (testB s x), Sub.none) := rfl
    rw [e]
    subst hs
    obtain ⟨xk, xn, xs, xt⟩ := x
    have hat0 : aIndexAddr prog 23 (.slice [(Tm.mk xk xn xs xt).av]) (.int .i64 0) = some (.pptr (Tm.mk xk xn xs xt).av) := ev_at (av := Tm.av) (l := [Tm.mk xk xn xs xt]) (i := 0) eI_23 rfl (Tm.av_width _)
    have eat := c_isAtom xk xn xs xt
    simp only [Tm.av_mk] at hat0 eat
    simp only [List.map_cons, List.map_nil, Tm.av_mk]
    simp -implicitDefEqProofs only [hat0, evE, ↓evZ2, ↓evZ3, ↓Int.cast_ofNat_Int, implies_true, zy2, aFn, List.contains, List.elem, zq3, zy1, zq2, sub, zx3, zw2, zw3, zy3, gd, zq1, zw0, zq0, zx0, zx2, zx1, zy0, zw1, List.range', ↓reduceIte, reduceCtorEq, Nat.reduceEqDiff, Nat.reduceAdd, Nat.reduceLeDiff, Nat.reduceMul, Nat.reduceLT, Nat.reduceBEq, Int.reduceEq, tf_B5_15]
    refine (eat _).to ?_
    simp -implicitDefEqProofs only [hat0, evE, ↓evZ2, ↓evZ3, ↓Int.cast_ofNat_Int, implies_true, zy2, aFn, List.contains, List.elem, zq3, zy1, zq2, sub, zx3, zw2, zw3, zy3, gd, zq1, zw0, zq0, zx0, zx2, zx1, zy0, zw1, List.range', ↓reduceIte, reduceCtorEq, Nat.reduceEqDiff, Nat.reduceAdd, Nat.reduceLeDiff, Nat.reduceMul, Nat.reduceLT, Nat.reduceBEq, Int.reduceEq, tf_B5_15]
    refine (c_holds _ _).to ?_
    simp -implicitDefEqProofs only [hat0, evE, ↓evZ2, ↓evZ3, ↓Int.cast_ofNat_Int, implies_true, zy2, aFn, List.contains, List.elem, zq3, zy1, zq2, sub, zx3, zw2, zw3, zy3, gd, zq1, zw0, zq0, zx0, zx2, zx1, zy0, zw1, List.range', ↓reduceIte, reduceCtorEq, Nat.reduceEqDiff, Nat.reduceAdd, Nat.reduceLeDiff, Nat.reduceMul, Nat.reduceLT, Nat.reduceBEq, Int.reduceEq, tf_B5_15]
    exact CallPost.same hS.sub rfl
  have hat : s ≠ ⟨#[97, 116, 111, 109]⟩ := by simpa using h
  simp -implicitDefEqProofs only [List.length_map, evE, ↓evZ2, ↓evZ3, ↓Int.cast_ofNat_Int, implies_true, zy2, aFn, List.contains, List.elem, zq3, zy1, zq2, sub, zx3, zw2, zw3, zy3, gd, zq1, zw0, zq0, zx0, zx2, zx1, zy0, zw1, List.range', ↓reduceIte, reduceCtorEq, Nat.reduceEqDiff, Nat.reduceAdd, Nat.reduceLeDiff, Nat.reduceMul, Nat.reduceLT, Nat.reduceBEq, Int.reduceEq, tf_B5_15]
  refine zq4 (fun h => ?_) (fun h => ?_)
  · have hs : s = ⟨#[105, 110, 116]⟩ := by simpa using h
    obtain ⟨x, rfl⟩ := kids1 (ts := ks) (by subst hs; simp [isBuiltin] at hb; omega)
    have e : solveB s [x] = (codeB (testB s x), Sub.none) := rfl
    rw [e]
    subst hs
    obtain ⟨xk, xn, xs, xt⟩ := x
    have hat0 : aIndexAddr prog 23 (.slice [(Tm.mk xk xn xs xt).av]) (.int .i64 0) = some (.pptr (Tm.mk xk xn xs xt).av) := ev_at (av := Tm.av) (l := [Tm.mk xk xn xs xt]) (i := 0) eI_23 rfl (Tm.av_width _)
    have eat := c_isAtom xk xn xs xt
    simp only [Tm.av_mk] at hat0 eat
    simp only [List.map_cons, List.map_nil, Tm.av_mk]
    simp -implicitDefEqProofs only [hat0, evE, ↓evZ2, ↓evZ3, ↓Int.cast_ofNat_Int, implies_true, zy2, aFn, List.contains, List.elem, zq3, zy1, zq2, sub, zx3, zw2, zw3, zy3, gd, zq1, zw0, zq0, zx0, zx2, zx1, zy0, zw1, List.range', ↓reduceIte, reduceCtorEq, Nat.reduceEqDiff, Nat.reduceAdd, Nat.reduceLeDiff, Nat.reduceMul, Nat.reduceLT, Nat.reduceBEq, Int.reduceEq, tf_B5_15]
    refine (c_holds _ _).to ?_
    simp -implicitDefEqProofs only [hat0, evE, ↓evZ2, ↓evZ3, ↓Int.cast_ofNat_Int, implies_true, zy2, aFn, List.contains, List.elem, zq3, zy1, zq2, sub, zx3, zw2, zw3, zy3, gd, zq1, zw0, zq0, zx0, zx2, zx1, zy0, zw1, List.range', ↓reduceIte, reduceCtorEq, Nat.reduceEqDiff, Nat.reduceAdd, Nat.reduceLeDiff, Nat.reduceMul, Nat.reduceLT, Nat.reduceBEq, Int.reduceEq, tf_B5_15]
    exact CallPost.same hS.sub rfl
  have hint : s ≠ ⟨#[105, 110, 116]⟩ := by simpa using h
  have hs : s = ⟨#[97, 114, 103]⟩ ∧ ks.length = 3 := by
    rcases hcs with ⟨h2, h3⟩ | ⟨h2, h3⟩ | ⟨h2, h3⟩ | ⟨h2, h3⟩
    · rw [hnc h2] at h3
      simp [he, hne, hee, his] at h3
    · simp [ht, hf] at h3
    · simp [hva, hnv, hat, hint] at h3
    · exact ⟨h3, h2⟩
  obtain ⟨hs, hk3⟩ := hs
  obtain ⟨x, y, z, rfl⟩ := kids3 hk3
  have hz := hv z (by simp)
  have hy := hv y (by simp)
  have e : solveB s [x, y, z] = argC x y z := rfl
  rw [e]
  unfold argC
  have hat0 : aIndexAddr prog 23 (.slice [x.av, y.av, z.av]) (.int .i64 0) = some (.pptr x.av) := ev_at (av := Tm.av) (l := [x, y, z]) (i := 0) eI_23 rfl (Tm.av_width x)
  have hat1 : aIndexAddr prog 23 (.slice [x.av, y.av, z.av]) (.int .i64 1) = some (.pptr y.av) := ev_at (av := Tm.av) (l := [x, y, z]) (i := 1) eI_23 rfl (Tm.av_width y)
  have hat2 : aIndexAddr prog 23 (.slice [x.av, y.av, z.av]) (.int .i64 2) = some (.pptr z.av) := ev_at (av := Tm.av) (l := [x, y, z]) (i := 2) eI_23 rfl (Tm.av_width z)
  clear hcs hb hnc hv e
  obtain ⟨xk, xn, xs, xt⟩ := x
  obtain ⟨yk, yn, ys, yt⟩ := y
  have hyl : yt.length ≤ 4 := by
    have := Tm.okA_own (Tm.valid_okA hy)
    have := (ownOk_kind this.1).2
    omega
  rw [Tm.av_mk] at hat0
  simp only [Tm.av_mk xk, Tm.av_mk yk] at hat0 hat1 hat2
  simp only [List.map_cons, List.map_nil, Tm.av_mk xk, Tm.av_mk yk, Tm.k, Tm.ts]
  simp -implicitDefEqProofs only [hat0, hat1, hat2, Tm.av_agg, Tm.av_width, List.length_map, evE, ↓evZ2, ↓evZ3, ↓Int.cast_ofNat_Int, implies_true, zy2, aFn, List.contains, List.elem, zq3, zy1, zq2, sub, zx3, zw2, zw3, zy3, gd, zq1, zw0, zq0, zx0, zx2, zx1, zy0, zw1, List.range', ↓reduceIte, reduceCtorEq, Nat.reduceEqDiff, Nat.reduceAdd, Nat.reduceLeDiff, Nat.reduceMul, Nat.reduceLT, Nat.reduceBEq, Int.reduceEq, tf_B5_15]
  refine zx4 (fun h => ?_) (fun h => ?_)
  case refine_2 =>
    have h' : xk = 1 := by simpa using h
    simp -implicitDefEqProofs only [h, hat0, hat1, hat2, Tm.av_agg, Tm.av_width, List.length_map, evE, ↓evZ2, ↓evZ3, ↓Int.cast_ofNat_Int, implies_true, zy2, aFn, List.contains, List.elem, zq3, zy1, zq2, sub, zx3, zw2, zw3, zy3, gd, zq1, zw0, zq0, zx0, zx2, zx1, zy0, zw1, List.range', ↓reduceIte, reduceCtorEq, Nat.reduceEqDiff, Nat.reduceAdd, Nat.reduceLeDiff, Nat.reduceMul, Nat.reduceLT, Nat.reduceBEq, Int.reduceEq, tf_B5_15]
    rw [if_pos (.inl h')]
    exact CallPost.same hS.sub rfl
  have hx1 : xk ≠ 1 := by simpa using h
  simp -implicitDefEqProofs only [h, hat0, hat1, hat2, Tm.av_agg, Tm.av_width, List.length_map, evE, ↓evZ2, ↓evZ3, ↓Int.cast_ofNat_Int, implies_true, zy2, aFn, List.contains, List.elem, zq3, zy1, zq2, sub, zx3, zw2, zw3, zy3, gd, zq1, zw0, zq0, zx0, zx2, zx1, zy0, zw1, List.range', ↓reduceIte, reduceCtorEq, Nat.reduceEqDiff, Nat.reduceAdd, Nat.reduceLeDiff, Nat.reduceMul, Nat.reduceLT, Nat.reduceBEq, Int.reduceEq, tf_B5_15]
  refine zq4 (fun h1 => ?_) (fun h1 => ?_)
  · have h' : yk = 1 := by simpa using h1
    simp -implicitDefEqProofs only [hat0, hat1, hat2, Tm.av_agg, Tm.av_width, List.length_map, evE, ↓evZ2, ↓evZ3, ↓Int.cast_ofNat_Int, implies_true, zy2, aFn, List.contains, List.elem, zq3, zy1, zq2, sub, zx3, zw2, zw3, zy3, gd, zq1, zw0, zq0, zx0, zx2, zx1, zy0, zw1, List.range', ↓reduceIte, reduceCtorEq, Nat.reduceEqDiff, Nat.reduceAdd, Nat.reduceLeDiff, Nat.reduceMul, Nat.reduceLT, Nat.reduceBEq, Int.reduceEq, tf_B5_15]
    rw [if_pos (.inr h')]
    exact CallPost.same hS.sub rfl
  have hy1 : yk ≠ 1 := by simpa using h1
  rw [if_neg (fun h2 => h2.elim hx1 hy1)]
  have h3 : ∀ s2, (xk ≠ 2 ∨ yk ≠ 3 ∨ yt.length = 0) → s2 = st → CallPost c m st (if xk ≠ 2 ∨ yk ≠ 3 ∨ yt.length = 0 then ((3 : Int), Sub.none) else match argT (.mk xk xn xs xt) (.mk yk yn ys yt) with | some u => uniC z u | none => (1, Sub.none)).1 (if xk ≠ 2 ∨ yk ≠ 3 ∨ yt.length = 0 then ((3 : Int), Sub.none) else match argT (.mk xk xn xs xt) (.mk yk yn ys yt) with | some u => uniC z u | none => (1, Sub.none)).2 (.int .i64 3) s2 := fun s2 hh e => by
    subst e
    rw [if_pos hh]
    exact CallPost.same hS.sub rfl
  simp -implicitDefEqProofs only [hat0, hat1, hat2, Tm.av_agg, Tm.av_width, List.length_map, evE, ↓evZ2, ↓evZ3, ↓Int.cast_ofNat_Int, implies_true, zy2, aFn, List.contains, List.elem, zq3, zy1, zq2, sub, zx3, zw2, zw3, zy3, gd, zq1, zw0, zq0, zx0, zx2, zx1, zy0, zw1, List.range', ↓reduceIte, reduceCtorEq, Nat.reduceEqDiff, Nat.reduceAdd, Nat.reduceLeDiff, Nat.reduceMul, Nat.reduceLT, Nat.reduceBEq, Int.reduceEq, tf_B5_15]
  refine zx4 (fun h4 => ?_) (fun h4 => ?_)
  case refine_2 =>
    have h' : xk ≠ 2 := by simpa using h4
    simp -implicitDefEqProofs only [h4, hat0, hat1, hat2, Tm.av_agg, Tm.av_width, List.length_map, evE, ↓evZ2, ↓evZ3, ↓Int.cast_ofNat_Int, implies_true, zy2, aFn, List.contains, List.elem, zq3, zy1, zq2, sub, zx3, zw2, zw3, zy3, gd, zq1, zw0, zq0, zx0, zx2, zx1, zy0, zw1, List.range', ↓reduceIte, reduceCtorEq, Nat.reduceEqDiff, Nat.reduceAdd, Nat.reduceLeDiff, Nat.reduceMul, Nat.reduceLT, Nat.reduceBEq, Int.reduceEq, tf_B5_15]
    exact h3 _ (.inl h') rfl
  have hx2 : xk = 2 := by simpa using h4
  simp -implicitDefEqProofs only [h4, hat0, hat1, hat2, Tm.av_agg, Tm.av_width, List.length_map, evE, ↓evZ2, ↓evZ3, ↓Int.cast_ofNat_Int, implies_true, zy2, aFn, List.contains, List.elem, zq3, zy1, zq2, sub, zx3, zw2, zw3, zy3, gd, zq1, zw0, zq0, zx0, zx2, zx1, zy0, zw1, List.range', ↓reduceIte, reduceCtorEq, Nat.reduceEqDiff, Nat.reduceAdd, Nat.reduceLeDiff, Nat.reduceMul, Nat.reduceLT, Nat.reduceBEq, Int.reduceEq, tf_B5_15]
  refine zx4 (fun h5 => ?_) (fun h5 => ?_)
  case refine_2 =>
    have h' : yk ≠ 3 := by simpa using h5
    simp -implicitDefEqProofs only [h5, hat0, hat1, hat2, Tm.av_agg, Tm.av_width, List.length_map, evE, ↓evZ2, ↓evZ3, ↓Int.cast_ofNat_Int, implies_true, zy2, aFn, List.contains, List.elem, zq3, zy1, zq2, sub, zx3, zw2, zw3, zy3, gd, zq1, zw0, zq0, zx0, zx2, zx1, zy0, zw1, List.range', ↓reduceIte, reduceCtorEq, Nat.reduceEqDiff, Nat.reduceAdd, Nat.reduceLeDiff, Nat.reduceMul, Nat.reduceLT, Nat.reduceBEq, Int.reduceEq, tf_B5_15]
    exact h3 _ (.inr (.inl h')) rfl
  have hy3 : yk = 3 := by simpa using h5
  simp -implicitDefEqProofs only [h5, hat0, hat1, hat2, Tm.av_agg, Tm.av_width, List.length_map, evE, ↓evZ2, ↓evZ3, ↓Int.cast_ofNat_Int, implies_true, zy2, aFn, List.contains, List.elem, zq3, zy1, zq2, sub, zx3, zw2, zw3, zy3, gd, zq1, zw0, zq0, zx0, zx2, zx1, zy0, zw1, List.range', ↓reduceIte, reduceCtorEq, Nat.reduceEqDiff, Nat.reduceAdd, Nat.reduceLeDiff, Nat.reduceMul, Nat.reduceLT, Nat.reduceBEq, Int.reduceEq, tf_B5_15]
  refine zq4 (fun h6 => ?_) (fun h6 => ?_)
  · have h' : yt.length = 0 := by simp at h6; simp [h6]
    simp -implicitDefEqProofs only [hat0, hat1, hat2, Tm.av_agg, Tm.av_width, List.length_map, evE, ↓evZ2, ↓evZ3, ↓Int.cast_ofNat_Int, implies_true, zy2, aFn, List.contains, List.elem, zq3, zy1, zq2, sub, zx3, zw2, zw3, zy3, gd, zq1, zw0, zq0, zx0, zx2, zx1, zy0, zw1, List.range', ↓reduceIte, reduceCtorEq, Nat.reduceEqDiff, Nat.reduceAdd, Nat.reduceLeDiff, Nat.reduceMul, Nat.reduceLT, Nat.reduceBEq, Int.reduceEq, tf_B5_15]
    exact h3 _ (.inr (.inr h')) rfl
  have hyt : yt.length ≠ 0 := by simp at h6; simpa using h6
  clear h3
  rw [if_neg (by simp [hx2, hy3]; intro h7; simp [h7] at hyt)]
  simp -implicitDefEqProofs only [hat0, hat1, hat2, Tm.av_agg, Tm.av_width, List.length_map, evE, ↓evZ2, ↓evZ3, ↓Int.cast_ofNat_Int, implies_true, zy2, aFn, List.contains, List.elem, zq3, zy1, zq2, sub, zx3, zw2, zw3, zy3, gd, zq1, zw0, zq0, zx0, zx2, zx1, zy0, zw1, List.range', ↓reduceIte, reduceCtorEq, Nat.reduceEqDiff, Nat.reduceAdd, Nat.reduceLeDiff, Nat.reduceMul, Nat.reduceLT, Nat.reduceBEq, Int.reduceEq, tf_B5_15]
  refine arun_drawA mixed (by decide +kernel) (by decide +kernel) ?_
  simp -implicitDefEqProofs only [hat0, hat1, hat2, Tm.av_agg, Tm.av_width, List.length_map, evE, ↓evZ2, ↓evZ3, ↓Int.cast_ofNat_Int, implies_true, zy2, aFn, List.contains, List.elem, zq3, zy1, zq2, sub, zx3, zw2, zw3, zy3, gd, zq1, zw0, zq0, zx0, zx2, zx1, zy0, zw1, List.range', ↓reduceIte, reduceCtorEq, Nat.reduceEqDiff, Nat.reduceAdd, Nat.reduceLeDiff, Nat.reduceMul, Nat.reduceLT, Nat.reduceBEq, Int.reduceEq, tf_B5_15]
  refine zw4 (c_within xn 1 _ _) ?_
  simp -implicitDefEqProofs only [hat0, hat1, hat2, Tm.av_agg, Tm.av_width, List.length_map, evE, ↓evZ2, ↓evZ3, ↓Int.cast_ofNat_Int, implies_true, zy2, aFn, List.contains, List.elem, zq3, zy1, zq2, sub, zx3, zw2, zw3, zy3, gd, zq1, zw0, zq0, zx0, zx2, zx1, zy0, zw1, List.range', ↓reduceIte, reduceCtorEq, Nat.reduceEqDiff, Nat.reduceAdd, Nat.reduceLeDiff, Nat.reduceMul, Nat.reduceLT, Nat.reduceBEq, Int.reduceEq, tf_B5_15]
  refine zq4 (fun h7 => ?_) (fun h7 => ?_)
  · have h' : ¬ (1 ≤ xn ∧ xn ≤ yt.length) := by simp at h7; omega
    have ea : argT (.mk xk xn xs xt) (.mk yk yn ys yt) = none := if_neg h'
    rw [ea]
    simp -implicitDefEqProofs only [hat0, hat1, hat2, Tm.av_agg, Tm.av_width, List.length_map, evE, ↓evZ2, ↓evZ3, ↓Int.cast_ofNat_Int, implies_true, zy2, aFn, List.contains, List.elem, zq3, zy1, zq2, sub, zx3, zw2, zw3, zy3, gd, zq1, zw0, zq0, zx0, zx2, zx1, zy0, zw1, List.range', ↓reduceIte, reduceCtorEq, Nat.reduceEqDiff, Nat.reduceAdd, Nat.reduceLeDiff, Nat.reduceMul, Nat.reduceLT, Nat.reduceBEq, Int.reduceEq, tf_B5_15]
    exact CallPost.same hS.sub rfl
  have h' : 1 ≤ xn ∧ xn ≤ yt.length := by simp at h7; omega
  obtain ⟨i, hi⟩ : ∃ i : Nat, xn - 1 = i := ⟨(xn - 1).toNat, by omega⟩
  have hlt : i < yt.length := by omega
  obtain ⟨u, hu⟩ : ∃ u, yt[i]? = some u := ⟨_, List.getElem?_eq_getElem hlt⟩
  have ea : argT (.mk xk xn xs xt) (.mk yk yn ys yt) = some u := by
    refine (if_pos h').trans ?_
    show yt[(xn - 1).toNat]? = some u
    rw [hi, Int.toNat_natCast, hu]
  rw [ea]
  have huv : u.valid = true := Tm.valid_kid hy hy1 (List.mem_of_getElem? hu)
  have hw : IntKind.i64.wrap (xn - 1) = (i : Int) := by rw [wrap64 (by omega) (by omega)]; exact hi
  have hatu := ev_at (av := Tm.av) (P := prog) eI_23 hu (Tm.av_width u)
  simp -implicitDefEqProofs only [hat0, hat1, hat2, hatu, hw, Tm.av_agg, Tm.av_width, List.length_map, evE, ↓evZ2, ↓evZ3, ↓Int.cast_ofNat_Int, implies_true, zy2, aFn, List.contains, List.elem, zq3, zy1, zq2, sub, zx3, zw2, zw3, zy3, gd, zq1, zw0, zq0, zx0, zx2, zx1, zy0, zw1, List.range', ↓reduceIte, reduceCtorEq, Nat.reduceEqDiff, Nat.reduceAdd, Nat.reduceLeDiff, Nat.reduceMul, Nat.reduceLT, Nat.reduceBEq, Int.reduceEq, tf_B5_15]
  refine zq5 [(0, 1), (1, 1), (2, 1), (3, 1), (4, 1), (5, 1), (6, 1), (7, 1), (8, 1), (9, 1), (10, 1), (11, 1), (12, 1), (13, 1), (14, 1), (15, 0), (16, 0), (17, 1)] [0, 1, 2, 3, 4, 5, 6, 7, 8, 9, 10, 11, 12, 13, 14, 17] none0' mixed (by decide +kernel) (by decide +kernel) (by decide +kernel) rfl ext_none ?_
  simp -implicitDefEqProofs only [hat0, hat1, hat2, hatu, hw, Tm.av_agg, Tm.av_width, List.length_map, evE, ↓evZ2, ↓evZ3, ↓Int.cast_ofNat_Int, implies_true, zy2, aFn, List.contains, List.elem, zq3, zy1, zq2, sub, zx3, zw2, zw3, zy3, gd, zq1, zw0, zq0, zx0, zx2, zx1, zy0, zw1, List.range', ↓reduceIte, reduceCtorEq, Nat.reduceEqDiff, Nat.reduceAdd, Nat.reduceLeDiff, Nat.reduceMul, Nat.reduceLT, Nat.reduceBEq, Int.reduceEq, tf_B5_15]
  refine (c_unify0 z u hz huv c m _ hS).mono ?_
  rintro _ s2 ⟨rfl, q', hS2, hQ2⟩
  simp -implicitDefEqProofs only [hat0, hat1, hat2, hatu, hw, Tm.av_agg, Tm.av_width, List.length_map, evE, ↓evZ2, ↓evZ3, ↓Int.cast_ofNat_Int, implies_true, zy2, aFn, List.contains, List.elem, zq3, zy1, zq2, sub, zx3, zw2, zw3, zy3, gd, zq1, zw0, zq0, zx0, zx2, zx1, zy0, zw1, List.range', ↓reduceIte, reduceCtorEq, Nat.reduceEqDiff, Nat.reduceAdd, Nat.reduceLeDiff, Nat.reduceMul, Nat.reduceLT, Nat.reduceBEq, Int.reduceEq, tf_B5_15]
  refine ⟨ext_none, ?_⟩
  refine (c_holds _ _).to ?_
  simp -implicitDefEqProofs only [hat0, hat1, hat2, hatu, hw, Tm.av_agg, Tm.av_width, List.length_map, evE, ↓evZ2, ↓evZ3, ↓Int.cast_ofNat_Int, implies_true, zy2, aFn, List.contains, List.elem, zq3, zy1, zq2, sub, zx3, zw2, zw3, zy3, gd, zq1, zw0, zq0, zx0, zx2, zx1, zy0, zw1, List.range', ↓reduceIte, reduceCtorEq, Nat.reduceEqDiff, Nat.reduceAdd, Nat.reduceLeDiff, Nat.reduceMul, Nat.reduceLT, Nat.reduceBEq, Int.reduceEq, tf_B5_15]
  exact ⟨ext_none, rfl, fun _ => ⟨q', hS2.sub⟩, hQ2.all⟩
end Go.AW


namespace Go.AW
open Go.Proofs.Try
set_option linter.unusedSimpArgs false
set_option maxRecDepth 100000
def AQ (b : Nat) (st : zy7) (σ' : Sub) (st' : zy7) : Prop := ArrAt st' b σ' ∧ ∀ x o, st x = some o → x ≠ b → st' x = some o
theorem AQ.refl {b : Nat} {st : zy7} {σ : Sub} (h : ArrAt st b σ) : AQ b st σ st := ⟨h, fun _ _ h _ => h⟩
theorem AQ.trans {b : Nat} {st s2 s3 : zy7} {σ2 σ3 : Sub} (x : AQ b st σ2 s2) (y : AQ b s2 σ3 s3) : AQ b st σ3 s3 := ⟨y.1, fun q o h hn => y.2 q o (x.2 q o h hn) hn⟩
def UF (f : Nat) (b : Nat) (σ : Sub) (a c : Tm) (r : Bool) (σ' : Sub) : Prop := ∀ st, ArrAt st b σ → zq7 prog f [a.av, c.av, .mslice b 0 26 4] st (fun r' st' => r' = .bool r ∧ AQ b st σ' st')
abbrev tf_P2_53 := And.intro tI_2 (And.intro zI_2 (And.intro underlying2 (And.intro tI_3 (And.intro zI_3 (And.intro underlying3 (And.intro tI_4 (And.intro zI_4 (And.intro underlying4 (And.intro tI_5 (And.intro zI_5 (And.intro underlying5 (And.intro tI_6 (And.intro zI_6 (And.intro underlying6 (And.intro tI_7 (And.intro zI_7 (And.intro fI_7_0 (And.intro fI_7_1 (And.intro fI_7_2 (And.intro fI_7_3 (And.intro bI_7 (And.intro tI_8 (And.intro zI_8 (And.intro fI_8_0 (And.intro fI_8_1 (And.intro fI_8_2 (And.intro fI_8_3 (And.intro bI_8 (And.intro tI_9 (And.intro zI_9 (And.intro underlying9 (And.intro tI_10 (And.intro zI_10 (And.intro underlying10 (And.intro tI_11 (And.intro zI_11 (And.intro underlying11 (And.intro tI_12 (And.intro zI_12 (And.intro underlying12 (And.intro tI_13 (And.intro zI_13 (And.intro fI_13_0 (And.intro fI_13_1 (And.intro bI_13 (And.intro tI_14 (And.intro zI_14 (And.intro fI_14_0 (And.intro fI_14_1 (And.intro bI_14 (And.intro tI_15 (And.intro zI_15 (And.intro tI_16 (And.intro zI_16 (And.intro tI_17 (And.intro zI_17 (And.intro tI_18 (And.intro zI_18 (And.intro fI_18_0 (And.intro bI_18 (And.intro tI_19 (And.intro zI_19 (And.intro fI_19_0 (And.intro bI_19 (And.intro tI_23 (And.intro zI_23 (And.intro eI_23 (And.intro eB_23 (And.intro eZ_23 (And.intro underlying23 (And.intro tI_25 (And.intro zI_25 (And.intro fI_25_0 (And.intro fI_25_1 (And.intro fI_25_2 (And.intro fI_25_3 (And.intro bI_25 (And.intro tI_34 (And.intro zI_34 (And.intro tI_48 (And.intro zI_48 (And.intro fI_48_0 (And.intro fI_48_1 (And.intro bI_48 (And.intro tI_70 (And.intro zI_70 (And.intro fI_70_0 (And.intro fI_70_1 (And.intro bI_70 (And.intro tI_97 (And.intro zI_97 underlying97)))))))))))))))))))))))))))))))))))))))))))))))))))))))))))))))))))))))))))))))))))))))))))
theorem l3U_body (g : Nat) (bb : Nat) (IH : ∀ (σ : Sub) (a b : Tm) (r : Bool) (σ' : Sub) (add : List Int), IsGood σ → AllS OkN σ → OkN a → OkN b → uniF g σ a b = some (r, σ', add) → UF 53 bb σ a b r σ')
    (σ : Sub) (a b : Tm) (r : Bool) (σ' : Sub) (add : List Int) (hg : IsGood σ) (hok : AllS OkN σ) (ha0 : OkN a) (hb0 : OkN b) (h : uniF (g + 1) σ a b = some (r, σ', add))
    (hswap : (wk σ a).k ≠ 1 → (wk σ b).k = 1 → UF 53 bb σ (wk σ b) (wk σ a) r σ') : UF 53 bb σ a b r σ' := by
  intro st hS
  obtain ⟨rk, B, G⟩ := hg.rs
  obtain ⟨fa, wa⟩ := G.wk a
  obtain ⟨fb, wb⟩ := G.wk b
  have hokA : AllS OkA σ := fun n u hu => (hok n u hu).1
  have hca := fun st (hS : ArrAt st bb σ) => c_l3Walk hokA wa ha0.1 bb st hS
  have hcb := fun st (hS : ArrAt st bb σ) => c_l3Walk hokA wb hb0.1 bb st hS
  have ea := wa.end
  have eb := wb.end
  have hsa := wa.all (p := OkN) hok ha0
  have hsb := wb.all (p := OkN) hok hb0
  replace h := uniF_cases h
  generalize wk σ a = a1 at *
  generalize wk σ b = b1 at *
  clear wa wb
  refine zw6 [1000000, 3, 4] func53 ntmps53 rfl rfl (by kernel_rfl) (by decide +kernel) (by show 3 ≤ _; decide +kernel) ?_
  intro hfit
  simp -implicitDefEqProofs only [zy4, evE, ↓evZ2, ↓evZ3, ↓Int.cast_ofNat_Int, implies_true, zy2, aFn, List.contains, List.elem, zq3, zy1, zq2, sub, zx3, zw2, zw3, zy3, gd, zq1, zw0, zq0, zx0, zx2, zx1, zy0, zw1, List.range', ↓reduceIte, reduceCtorEq, Nat.reduceEqDiff, Nat.reduceAdd, Nat.reduceLeDiff, Nat.reduceMul, Nat.reduceLT, Nat.reduceBEq, Int.reduceEq, tf_P2_53]
  intro b4 h4 b5 h5
  have h54 : b5 ≠ b4 := by rintro rfl; rw [zy7.upd_same] at h5; cases h5
  have hn5 : st b5 = none := by rw [zy7.upd_ne st _ h54] at h5; exact h5
  have h4b : b4 ≠ bb := by rintro rfl; rw [ArrAt, h4] at hS; cases hS
  have h5b : b5 ≠ bb := by rintro rfl; rw [ArrAt, hn5] at hS; cases hS
  have hS' : ∀ o o', ArrAt ((st.upd b4 o).upd b5 o') bb σ := fun o o' => (hS.upd h4b).upd h5b
  have hQ : ∀ o o', AQ bb st σ ((st.upd b4 o).upd b5 o') := fun o o' => ⟨hS' o o', fun x p h _ => by
    rw [zy7.upd_ne _ _ (by rintro rfl; rw [hn5] at h; cases h), zy7.upd_ne _ _ (by rintro rfl; rw [h4] at h; cases h)]; exact h⟩
  simp -implicitDefEqProofs only [Tm.av_cells, take_all (Tm.av_cells a), agg_cells (Tm.av_agg a), Tm.av_agg, Tm.av_width, Nat.le_refl, zy4, h54, h54.symm, evE, ↓evZ2, ↓evZ3, ↓Int.cast_ofNat_Int, implies_true, zy2, aFn, List.contains, List.elem, zq3, zy1, zq2, sub, zx3, zw2, zw3, zy3, gd, zq1, zw0, zq0, zx0, zx2, zx1, zy0, zw1, List.range', ↓reduceIte, reduceCtorEq, Nat.reduceEqDiff, Nat.reduceAdd, Nat.reduceLeDiff, Nat.reduceMul, Nat.reduceLT, Nat.reduceBEq, Int.reduceEq, tf_P2_53]
  refine (hca _ (hS' _ _)).to ?_
  simp -implicitDefEqProofs only [Tm.av_cells, take_all (Tm.av_cells b), agg_cells (Tm.av_agg b), Tm.av_agg, Tm.av_width, Nat.le_refl, Tm.av_store, zy4, h54, h54.symm, evE, ↓evZ2, ↓evZ3, ↓Int.cast_ofNat_Int, implies_true, zy2, aFn, List.contains, List.elem, zq3, zy1, zq2, sub, zx3, zw2, zw3, zy3, gd, zq1, zw0, zq0, zx0, zx2, zx1, zy0, zw1, List.range', ↓reduceIte, reduceCtorEq, Nat.reduceEqDiff, Nat.reduceAdd, Nat.reduceLeDiff, Nat.reduceMul, Nat.reduceLT, Nat.reduceBEq, Int.reduceEq, tf_P2_53]
  rw [zy7.upd_mid h54, zy7.upd_comm _ _ _ h54]
  refine (hcb _ (hS' _ _)).to ?_
  obtain ⟨ka, na, sa, tsa⟩ := a1
  obtain ⟨kb, nb, sb', tsb⟩ := b1
  obtain ⟨hla, hlas⟩ := Tm.small_mk (Tm.okA_small _ hsa.1)
  obtain ⟨hlb, hlbs⟩ := Tm.small_mk (Tm.okA_small _ hsb.1)
  have hfin : ∀ o o', AQ bb st σ ((st.upd b4 o).upd b5 o') := hQ
  have hka := fun h => okN_kids _ h hsa
  have hkb := fun h => okN_kids _ h hsb
  simp only [Tm.av_mk]
  simp only [Tm.k, Tm.n, Tm.s, Tm.ts] at h ea eb hswap hka hkb
  simp -implicitDefEqProofs only [zy7.upd_upd, zy4, h54, h54.symm, evE, ↓evZ2, ↓evZ3, ↓Int.cast_ofNat_Int, implies_true, zy2, aFn, List.contains, List.elem, zq3, zy1, zq2, sub, zx3, zw2, zw3, zy3, gd, zq1, zw0, zq0, zx0, zx2, zx1, zy0, zw1, List.range', ↓reduceIte, reduceCtorEq, Nat.reduceEqDiff, Nat.reduceAdd, Nat.reduceLeDiff, Nat.reduceMul, Nat.reduceLT, Nat.reduceBEq, Int.reduceEq, tf_P2_53]
  have var : ∀ {n : Int} {t : Tm}, n ∈ V25 → σ n = none → OkN t → bnd σ n t = (r, σ', add) → ∀ s0, ArrAt s0 bb σ → zq7 prog 72 [.int .i64 n, t.av, .mslice bb 0 26 4] s0 (fun r' st' => r' = .bool (!r) ∧ st' = s0) := by
    intro n t _ hn ht hb s0 hs0
    have := c_l3Within G hok hn t ht bb s0 hs0
    unfold bnd at hb
    split at hb
    · rename_i hm
      cases hb
      simpa [hm] using this
    · rename_i hm
      cases hb
      simpa [hm] using this
  rcases h with ⟨h1, h2, h3, rfl, rfl, rfl⟩ | ⟨h1, h2, h3⟩ | ⟨h1, h2, h3⟩ | ⟨h1, h2, h3, h4⟩ | ⟨h1, h2, h3, rfl, rfl, rfl⟩
  · subst h1 h2 h3
    simp -implicitDefEqProofs only [decide_true, beq_self_eq_true, zy4, h54, h54.symm, evE, ↓evZ2, ↓evZ3, ↓Int.cast_ofNat_Int, implies_true, zy2, aFn, List.contains, List.elem, zq3, zy1, zq2, sub, zx3, zw2, zw3, zy3, gd, zq1, zw0, zq0, zx0, zx2, zx1, zy0, zw1, List.range', ↓reduceIte, reduceCtorEq, Nat.reduceEqDiff, Nat.reduceAdd, Nat.reduceLeDiff, Nat.reduceMul, Nat.reduceLT, Nat.reduceBEq, Int.reduceEq, tf_P2_53]
    exact hfin _ _
  · subst h1
    have hin := Tm.okA_inV _ hsa.1 na (by rw [Tm.vl_var rfl]; simp)
    obtain ⟨hn0, hn1⟩ := mem_V25.1 hin
    have hcw := var hin (ea rfl) hsb h3 _ (hS' (.cells [.int .i64 1, .int .i64 na, .str sa, .slice (tsa.map Tm.av)]) (.cells [.int .i64 kb, .int .i64 nb, .str sb', .slice (tsb.map Tm.av)]))
    have hna := ea rfl
    rw [Tm.av_mk] at hcw
    obtain ⟨i, rfl⟩ : ∃ i : Nat, na = i := ⟨na.toNat, by omega⟩
    have hi : i < 26 := by omega
    have hat := held_at (P := prog) (b := bb) (len := 26) eI_23 hi
    have h6 : kb = 1 → ¬ (i : Int) = nb := fun e1 e => h2 ⟨e1, e⟩
    have tail : ∀ (s0 : zy7), s0 = ((st.upd b4 (.cells [.int .i64 1, .int .i64 i, .str sa, .slice (tsa.map Tm.av)])).upd b5 (.cells [.int .i64 kb, .int .i64 nb, .str sb', .slice (tsb.map Tm.av)])) → r = true →
        ∃ D D', s0 bb = some (.cells D) ∧ i * 4 + 4 ≤ D.length ∧ zy4 D (i * 4) [.int .i64 kb, .int .i64 nb, .str sb', .slice (tsb.map Tm.av)] = D' ∧ AQ bb st σ' (s0.upd bb (.cells D')) := by
      rintro _ rfl rfl
      unfold bnd at h3
      split at h3
      · cases h3
      · cases h3
        obtain ⟨D, D', e1, e2, e3, e4⟩ := (hS' (.cells [.int .i64 1, .int .i64 i, .str sa, .slice (tsa.map Tm.av)]) (.cells [.int .i64 kb, .int .i64 nb, .str sb', .slice (tsb.map Tm.av)])).set hi (.mk kb nb sb' tsb)
        refine ⟨D, D', e1, e2, by rw [← e3, Tm.av_mk]; rfl, e4, fun x o hx hxb => ?_⟩
        rw [zy7.upd_ne _ _ hxb]
        exact (hQ _ _).2 x o hx hxb
    by_cases h5 : kb = 1
    · subst h5
      simp -implicitDefEqProofs only [decide_true, h6 rfl, decide_false, beq_self_eq_true, zy4, h54, h54.symm, evE, ↓evZ2, ↓evZ3, ↓Int.cast_ofNat_Int, implies_true, zy2, aFn, List.contains, List.elem, zq3, zy1, zq2, sub, zx3, zw2, zw3, zy3, gd, zq1, zw0, zq0, zx0, zx2, zx1, zy0, zw1, List.range', ↓reduceIte, reduceCtorEq, Nat.reduceEqDiff, Nat.reduceAdd, Nat.reduceLeDiff, Nat.reduceMul, Nat.reduceLT, Nat.reduceBEq, Int.reduceEq, tf_P2_53]
      refine hcw.to ?_
      cases r with
      | false =>
        simp -implicitDefEqProofs only [zy4, h54, h54.symm, evE, ↓evZ2, ↓evZ3, ↓Int.cast_ofNat_Int, implies_true, zy2, aFn, List.contains, List.elem, zq3, zy1, zq2, sub, zx3, zw2, zw3, zy3, gd, zq1, zw0, zq0, zx0, zx2, zx1, zy0, zw1, List.range', ↓reduceIte, reduceCtorEq, Nat.reduceEqDiff, Nat.reduceAdd, Nat.reduceLeDiff, Nat.reduceMul, Nat.reduceLT, Nat.reduceBEq, Int.reduceEq, tf_P2_53]
        unfold bnd at h3
        split at h3
        · cases h3
          exact hfin _ _
        · cases h3
      | true =>
        obtain ⟨D, D', e1, e2, e3, e4⟩ := tail _ rfl rfl
        simp -implicitDefEqProofs only [hat, e1, e2, zy4, h54, h54.symm, evE, ↓evZ2, ↓evZ3, ↓Int.cast_ofNat_Int, implies_true, zy2, aFn, List.contains, List.elem, zq3, zy1, zq2, sub, zx3, zw2, zw3, zy3, gd, zq1, zw0, zq0, zx0, zx2, zx1, zy0, zw1, List.range', ↓reduceIte, reduceCtorEq, Nat.reduceEqDiff, Nat.reduceAdd, Nat.reduceLeDiff, Nat.reduceMul, Nat.reduceLT, Nat.reduceBEq, Int.reduceEq, tf_P2_53]
        rw [← e3] at e4
        exact e4
    · simp -implicitDefEqProofs only [decide_true, h5, decide_false, beq_self_eq_true, zy4, h54, h54.symm, evE, ↓evZ2, ↓evZ3, ↓Int.cast_ofNat_Int, implies_true, zy2, aFn, List.contains, List.elem, zq3, zy1, zq2, sub, zx3, zw2, zw3, zy3, gd, zq1, zw0, zq0, zx0, zx2, zx1, zy0, zw1, List.range', ↓reduceIte, reduceCtorEq, Nat.reduceEqDiff, Nat.reduceAdd, Nat.reduceLeDiff, Nat.reduceMul, Nat.reduceLT, Nat.reduceBEq, Int.reduceEq, tf_P2_53]
      refine hcw.to ?_
      cases r with
      | false =>
        simp -implicitDefEqProofs only [zy4, h54, h54.symm, evE, ↓evZ2, ↓evZ3, ↓Int.cast_ofNat_Int, implies_true, zy2, aFn, List.contains, List.elem, zq3, zy1, zq2, sub, zx3, zw2, zw3, zy3, gd, zq1, zw0, zq0, zx0, zx2, zx1, zy0, zw1, List.range', ↓reduceIte, reduceCtorEq, Nat.reduceEqDiff, Nat.reduceAdd, Nat.reduceLeDiff, Nat.reduceMul, Nat.reduceLT, Nat.reduceBEq, Int.reduceEq, tf_P2_53]
        unfold bnd at h3
        split at h3
        · cases h3
          exact hfin _ _
        · cases h3
      | true =>
        obtain ⟨D, D', e1, e2, e3, e4⟩ := tail _ rfl rfl
        simp -implicitDefEqProofs only [hat, e1, e2, zy4, h54, h54.symm, evE, ↓evZ2, ↓evZ3, ↓Int.cast_ofNat_Int, implies_true, zy2, aFn, List.contains, List.elem, zq3, zy1, zq2, sub, zx3, zw2, zw3, zy3, gd, zq1, zw0, zq0, zx0, zx2, zx1, zy0, zw1, List.range', ↓reduceIte, reduceCtorEq, Nat.reduceEqDiff, Nat.reduceAdd, Nat.reduceLeDiff, Nat.reduceMul, Nat.reduceLT, Nat.reduceBEq, Int.reduceEq, tf_P2_53]
        rw [← e3] at e4
        exact e4
  · subst h2
    have hsw := hswap h1 rfl
    simp only [UF, Tm.av_mk] at hsw
    simp -implicitDefEqProofs only [decide_true, h1, decide_false, beq_self_eq_true, zy4, h54, h54.symm, evE, ↓evZ2, ↓evZ3, ↓Int.cast_ofNat_Int, implies_true, zy2, aFn, List.contains, List.elem, zq3, zy1, zq2, sub, zx3, zw2, zw3, zy3, gd, zq1, zw0, zq0, zx0, zx2, zx1, zy0, zw1, List.range', ↓reduceIte, reduceCtorEq, Nat.reduceEqDiff, Nat.reduceAdd, Nat.reduceLeDiff, Nat.reduceMul, Nat.reduceLT, Nat.reduceBEq, Int.reduceEq, tf_P2_53]
    refine (hsw _ (hS' _ _)).mono ?_
    rintro _ s2 ⟨rfl, hp⟩
    simp -implicitDefEqProofs only [zy4, h54, h54.symm, evE, ↓evZ2, ↓evZ3, ↓Int.cast_ofNat_Int, implies_true, zy2, aFn, List.contains, List.elem, zq3, zy1, zq2, sub, zx3, zw2, zw3, zy3, gd, zq1, zw0, zq0, zx0, zx2, zx1, zy0, zw1, List.range', ↓reduceIte, reduceCtorEq, Nat.reduceEqDiff, Nat.reduceAdd, Nat.reduceLeDiff, Nat.reduceMul, Nat.reduceLT, Nat.reduceBEq, Int.reduceEq, tf_P2_53]
    exact (hQ _ _).trans hp
  · rw [headEq_iff] at h3
    simp only [Tm.k, Tm.n, Tm.s, Tm.ts] at h3
    obtain ⟨rfl, rfl, rfl, hlen⟩ := h3
    have hlen' : decide ((tsa.length : Int) = (tsb.length : Int)) = true := by simp [hlen]
    simp -implicitDefEqProofs only [decide_true, decide_false, hlen', beq_self_eq_true, zy4, h54, h54.symm, List.length_map, h1, evE, ↓evZ2, ↓evZ3, ↓Int.cast_ofNat_Int, implies_true, zy2, aFn, List.contains, List.elem, zq3, zy1, zq2, sub, zx3, zw2, zw3, zy3, gd, zq1, zw0, zq0, zx0, zx2, zx1, zy0, zw1, List.range', ↓reduceIte, reduceCtorEq, Nat.reduceEqDiff, Nat.reduceAdd, Nat.reduceLeDiff, Nat.reduceMul, Nat.reduceLT, Nat.reduceBEq, Int.reduceEq, tf_P2_53]
    have hS0 := hS' (.cells [.int .i64 ka, .int .i64 na, .str sa, .slice (tsa.map Tm.av)]) (.cells [.int .i64 ka, .int .i64 na, .str sa, .slice (tsb.map Tm.av)])
    have hQ0 := hQ (.cells [.int .i64 ka, .int .i64 na, .str sa, .slice (tsa.map Tm.av)]) (.cells [.int .i64 ka, .int .i64 na, .str sa, .slice (tsb.map Tm.av)])
    have e4 : ((st.upd b4 (.cells [.int .i64 ka, .int .i64 na, .str sa, .slice (tsa.map Tm.av)])).upd b5 (.cells [.int .i64 ka, .int .i64 na, .str sa, .slice (tsb.map Tm.av)])) b4 = some (.cells [.int .i64 ka, .int .i64 na, .str sa, .slice (tsa.map Tm.av)]) := by rw [zy7.upd_ne _ _ h54.symm, zy7.upd_same]
    have e5 : ((st.upd b4 (.cells [.int .i64 ka, .int .i64 na, .str sa, .slice (tsa.map Tm.av)])).upd b5 (.cells [.int .i64 ka, .int .i64 na, .str sa, .slice (tsb.map Tm.av)])) b5 = some (.cells [.int .i64 ka, .int .i64 na, .str sa, .slice (tsb.map Tm.av)]) := zy7.upd_same _ _ _
    generalize (st.upd b4 (.cells [.int .i64 ka, .int .i64 na, .str sa, .slice (tsa.map Tm.av)])).upd b5 (.cells [.int .i64 ka, .int .i64 na, .str sa, .slice (tsb.map Tm.av)]) = s0 at *
    refine zy5 (σ := Sub × List Int × zy7) [1000000, 3, 4] [2, 3, 4] tsa
      (fun i p => IsGood p.1 ∧ AllS OkN p.1 ∧ AQ bb s0 p.1 p.2.2 ∧ unisF g p.1 (tsa.drop i) (tsb.drop i) = some (r, σ', p.2.1))
      (fun i _ => [(6, .bool false), (7, .int .i64 i)]) (fun _ p => p.2.2) (by decide +kernel)
      ⟨(σ, add, s0), ⟨hg, hok, AQ.refl hS0, h4⟩, zx7.mk (by simp -implicitDefEqProofs only [zy4, h54, h54.symm, List.length_map, h1, evE, ↓evZ2, ↓evZ3, ↓Int.cast_ofNat_Int, implies_true, zy2, aFn, List.contains, List.elem, zq3, zy1, zq2, sub, zx3, zw2, zw3, zy3, gd, zq1, zw0, zq0, zx0, zx2, zx1, zy0, zw1, List.range', ↓reduceIte, reduceCtorEq, Nat.reduceEqDiff, Nat.reduceAdd, Nat.reduceLeDiff, Nat.reduceMul, Nat.reduceLT, Nat.reduceBEq, Int.reduceEq, tf_P2_53])⟩ (fun i x p hx hlt hlt' hdr hinv => ?_) (fun p hge hinv => ?_)
    case refine_2 =>
      obtain ⟨σi, rest, si⟩ := p
      obtain ⟨i1, i2, i3, i5⟩ := hinv
      simp only at i1 i2 i3 i5
      have f4 := i3.2 b4 _ e4 h4b
      rw [List.drop_length, hlen, List.drop_length] at i5
      simp only [unisF, Option.some.injEq, Prod.mk.injEq] at i5
      obtain ⟨rfl, rfl, rfl⟩ := i5
      simp -implicitDefEqProofs only [hge, zy4, f4, List.length_map, evE, ↓evZ2, ↓evZ3, ↓Int.cast_ofNat_Int, implies_true, zy2, aFn, List.contains, List.elem, zq3, zy1, zq2, sub, zx3, zw2, zw3, zy3, gd, zq1, zw0, zq0, zx0, zx2, zx1, zy0, zw1, List.range', ↓reduceIte, reduceCtorEq, Nat.reduceEqDiff, Nat.reduceAdd, Nat.reduceLeDiff, Nat.reduceMul, Nat.reduceLT, Nat.reduceBEq, Int.reduceEq, tf_P2_53]
      exact hQ0.trans i3
    obtain ⟨σi, rest, si⟩ := p
    obtain ⟨i1, i2, i3, i5⟩ := hinv
    simp only at i1 i2 i3 i5
    obtain ⟨y, hy⟩ : ∃ y, tsb[i]? = some y := ⟨_, List.getElem?_eq_getElem (by omega)⟩
    have hdr' : tsb.drop i = y :: tsb.drop (i + 1) := by
      obtain ⟨h1, h2⟩ := List.getElem?_eq_some_iff.1 hy
      rw [List.drop_eq_getElem_cons h1, h2]
    rw [hdr, hdr', unisF] at i5
    have f4 := i3.2 b4 _ e4 h4b
    have f5 := i3.2 b5 _ e5 h5b
    have hw := wrap64 (n := (i : Int) + 1) (by omega) (by omega)
    simp -implicitDefEqProofs only [hlt', zy4, h54, h54.symm, List.length_map, h1, f4, f5, ev_at (av := Tm.av) eI_23 hx (Tm.av_width x), ev_at (av := Tm.av) eI_23 hy (Tm.av_width y), evE, ↓evZ2, ↓evZ3, ↓Int.cast_ofNat_Int, implies_true, zy2, aFn, List.contains, List.elem, zq3, zy1, zq2, sub, zx3, zw2, zw3, zy3, gd, zq1, zw0, zq0, zx0, zx2, zx1, zy0, zw1, List.range', ↓reduceIte, reduceCtorEq, Nat.reduceEqDiff, Nat.reduceAdd, Nat.reduceLeDiff, Nat.reduceMul, Nat.reduceLT, Nat.reduceBEq, Int.reduceEq, tf_P2_53]
    refine zx5 [(0, 1), (2, 1), (5, 1), (7, 1), (10, 1), (1, 2), (3, 1), (4, 2), (6, 2), (8, 1), (9, 2), (11, 0), (12, 1)] [0, 2, 5, 7, 10, 1, 3, 4, 6, 8, 9, 12] mixed (by decide +kernel) (by decide +kernel) (by decide +kernel) ?_
    simp -implicitDefEqProofs only [zy4, h54, h54.symm, List.length_map, h1, f4, f5, ev_at (av := Tm.av) eI_23 hx (Tm.av_width x), ev_at (av := Tm.av) eI_23 hy (Tm.av_width y), evE, ↓evZ2, ↓evZ3, ↓Int.cast_ofNat_Int, implies_true, zy2, aFn, List.contains, List.elem, zq3, zy1, zq2, sub, zx3, zw2, zw3, zy3, gd, zq1, zw0, zq0, zx0, zx2, zx1, zy0, zw1, List.range', ↓reduceIte, reduceCtorEq, Nat.reduceEqDiff, Nat.reduceAdd, Nat.reduceLeDiff, Nat.reduceMul, Nat.reduceLT, Nat.reduceBEq, Int.reduceEq, tf_P2_53]
    cases hu : uniF g σi x y with
    | none => rw [hu] at i5; cases i5
    | some p1 =>
      obtain ⟨r1, σ1, tr1⟩ := p1
      rw [hu] at i5
      have hx1 : OkN x := hka h1 x (List.mem_of_getElem? hx)
      have hy1 : OkN y := hkb h2 y (List.mem_of_getElem? hy)
      have hU := uniF_uni i1 hu
      have hA := (uni_all okN_kids g).1 σi x y r1 σ1 tr1 i1 hu i2 hx1 hy1
      refine (IH σi x y r1 σ1 tr1 i1 i2 hx1 hy1 hu si i3.1).mono ?_
      rintro _ s2 ⟨rfl, hp2⟩
      cases r1 with
      | false =>
        simp only [Option.some.injEq, Prod.mk.injEq] at i5
        obtain ⟨rfl, rfl, rfl⟩ := i5
        simp -implicitDefEqProofs only [zy4, h54, h54.symm, List.length_map, h1, f4, f5, ev_at (av := Tm.av) eI_23 hx (Tm.av_width x), ev_at (av := Tm.av) eI_23 hy (Tm.av_width y), evE, ↓evZ2, ↓evZ3, ↓Int.cast_ofNat_Int, implies_true, zy2, aFn, List.contains, List.elem, zq3, zy1, zq2, sub, zx3, zw2, zw3, zy3, gd, zq1, zw0, zq0, zx0, zx2, zx1, zy0, zw1, List.range', ↓reduceIte, reduceCtorEq, Nat.reduceEqDiff, Nat.reduceAdd, Nat.reduceLeDiff, Nat.reduceMul, Nat.reduceLT, Nat.reduceBEq, Int.reduceEq, tf_P2_53]
        exact hQ0.trans (i3.trans hp2)
      | true =>
        simp only at i5
        cases hu2 : unisF g σ1 (tsa.drop (i + 1)) (tsb.drop (i + 1)) with
        | none => rw [hu2] at i5; cases i5
        | some p2 =>
          obtain ⟨r2, σ2, tr2⟩ := p2
          rw [hu2] at i5
          simp only [Option.some.injEq, Prod.mk.injEq] at i5
          obtain ⟨rfl, rfl, _⟩ := i5
          simp -implicitDefEqProofs only [zy4, h54, h54.symm, List.length_map, h1, f4, f5, ev_at (av := Tm.av) eI_23 hx (Tm.av_width x), ev_at (av := Tm.av) eI_23 hy (Tm.av_width y), evE, ↓evZ2, ↓evZ3, ↓Int.cast_ofNat_Int, implies_true, zy2, aFn, List.contains, List.elem, zq3, zy1, zq2, sub, zx3, zw2, zw3, zy3, gd, zq1, zw0, zq0, zx0, zx2, zx1, zy0, zw1, List.range', ↓reduceIte, reduceCtorEq, Nat.reduceEqDiff, Nat.reduceAdd, Nat.reduceLeDiff, Nat.reduceMul, Nat.reduceLT, Nat.reduceBEq, Int.reduceEq, tf_P2_53]
          exact ⟨(σ1, tr2, s2), ⟨hU.good, hA, i3.trans hp2, hu2⟩, zx7.mk (by simp -implicitDefEqProofs only [hw, zy4, h54, h54.symm, List.length_map, h1, f4, f5, ev_at (av := Tm.av) eI_23 hx (Tm.av_width x), ev_at (av := Tm.av) eI_23 hy (Tm.av_width y), evE, ↓evZ2, ↓evZ3, ↓Int.cast_ofNat_Int, implies_true, zy2, aFn, List.contains, List.elem, zq3, zy1, zq2, sub, zx3, zw2, zw3, zy3, gd, zq1, zw0, zq0, zx0, zx2, zx1, zy0, zw1, List.range', ↓reduceIte, reduceCtorEq, Nat.reduceEqDiff, Nat.reduceAdd, Nat.reduceLeDiff, Nat.reduceMul, Nat.reduceLT, Nat.reduceBEq, Int.reduceEq, tf_P2_53])⟩
  · have hd : ka = kb → na = nb → sa = sb' → ¬ (tsa.length : Int) = (tsb.length : Int) := by
      intro e1 e2 e3 e4
      have : headEq (Tm.mk ka na sa tsa) (Tm.mk kb nb sb' tsb) = true := headEq_iff.2 ⟨e1, e2, e3, by simp only [Tm.ts]; omega⟩
      rw [h3] at this; cases this
    by_cases e1 : ka = kb
    · by_cases e2 : na = nb
      · by_cases e3 : sa = sb'
        · have e4 := hd e1 e2 e3
          subst e1 e2 e3
          simp -implicitDefEqProofs only [decide_false, decide_true, beq_self_eq_true, zy4, h54, h54.symm, h1, List.length_map, e4, evE, ↓evZ2, ↓evZ3, ↓Int.cast_ofNat_Int, implies_true, zy2, aFn, List.contains, List.elem, zq3, zy1, zq2, sub, zx3, zw2, zw3, zy3, gd, zq1, zw0, zq0, zx0, zx2, zx1, zy0, zw1, List.range', ↓reduceIte, reduceCtorEq, Nat.reduceEqDiff, Nat.reduceAdd, Nat.reduceLeDiff, Nat.reduceMul, Nat.reduceLT, Nat.reduceBEq, Int.reduceEq, tf_P2_53]
          exact hfin _ _
        · subst e1 e2
          simp -implicitDefEqProofs only [decide_false, decide_true, beq_self_eq_true, zy4, h54, h54.symm, h1, List.length_map, e3, evE, ↓evZ2, ↓evZ3, ↓Int.cast_ofNat_Int, implies_true, zy2, aFn, List.contains, List.elem, zq3, zy1, zq2, sub, zx3, zw2, zw3, zy3, gd, zq1, zw0, zq0, zx0, zx2, zx1, zy0, zw1, List.range', ↓reduceIte, reduceCtorEq, Nat.reduceEqDiff, Nat.reduceAdd, Nat.reduceLeDiff, Nat.reduceMul, Nat.reduceLT, Nat.reduceBEq, Int.reduceEq, tf_P2_53]
          exact hfin _ _
      · subst e1
        simp -implicitDefEqProofs only [decide_false, decide_true, beq_self_eq_true, zy4, h54, h54.symm, h1, List.length_map, e2, evE, ↓evZ2, ↓evZ3, ↓Int.cast_ofNat_Int, implies_true, zy2, aFn, List.contains, List.elem, zq3, zy1, zq2, sub, zx3, zw2, zw3, zy3, gd, zq1, zw0, zq0, zx0, zx2, zx1, zy0, zw1, List.range', ↓reduceIte, reduceCtorEq, Nat.reduceEqDiff, Nat.reduceAdd, Nat.reduceLeDiff, Nat.reduceMul, Nat.reduceLT, Nat.reduceBEq, Int.reduceEq, tf_P2_53]
        exact hfin _ _
    · clear hd
      simp -implicitDefEqProofs only [decide_false, decide_true, beq_self_eq_true, zy4, h54, h54.symm, h1, h2, List.length_map, e1, evE, ↓evZ2, ↓evZ3, ↓Int.cast_ofNat_Int, implies_true, zy2, aFn, List.contains, List.elem, zq3, zy1, zq2, sub, zx3, zw2, zw3, zy3, gd, zq1, zw0, zq0, zx0, zx2, zx1, zy0, zw1, List.range', ↓reduceIte, reduceCtorEq, Nat.reduceEqDiff, Nat.reduceAdd, Nat.reduceLeDiff, Nat.reduceMul, Nat.reduceLT, Nat.reduceBEq, Int.reduceEq, tf_P2_53]
      exact hfin _ _
theorem wk_wk {σ : Sub} {f : Nat} {t u : Tm} (h : WkN σ f t u) : wk σ u = u := (WkN.stop h.end).wk
theorem c_l3Unify (bb : Nat) : ∀ (g : Nat) (σ : Sub) (a b : Tm) (r : Bool) (σ' : Sub) (add : List Int), IsGood σ → AllS OkN σ → OkN a → OkN b → uniF g σ a b = some (r, σ', add) → UF 53 bb σ a b r σ'
  | 0, σ, a, b, r, σ', add, hg, hok, ha, hb, h => by simp only [uniF] at h; cases h
  | g + 1, σ, a, b, r, σ', add, hg, hok, ha, hb, h => by
    refine l3U_body g bb (c_l3Unify bb g) σ a b r σ' add hg hok ha hb h fun h1 h2 => ?_
    obtain ⟨rk, B, G⟩ := hg.rs
    obtain ⟨fa, wa⟩ := G.wk a
    obtain ⟨fb, wb⟩ := G.wk b
    have eb := wk_wk wb
    have ea := wk_wk wa
    have hbn : bnd σ (wk σ b).n (wk σ a) = (r, σ', add) := by
      rcases uniF_cases h with h | h | h | h | h
      · exact absurd h.1 h1
      · exact absurd h.1 h1
      · exact h.2.2
      · exact absurd h2 h.2.1
      · exact absurd h2 h.2.1
    refine l3U_body 0 bb (fun σ a b r σ' add _ _ _ _ h => by simp only [uniF] at h; cases h) σ (wk σ b) (wk σ a) r σ' add hg hok (wb.all (p := OkN) hok hb) (wa.all (p := OkN) hok ha) ?_ fun h3 => ?_
    · rw [uniF, eb, ea, if_neg (fun h => h1 h.2.1), if_pos h2, hbn]
    · rw [eb] at h3; exact absurd h2 h3
end Go.AW

/- Lists that grow, beside a block that is held. -/
namespace Go.AW
set_option linter.unusedSimpArgs false
set_option linter.unusedVariables false
theorem zx6 {P : Program} {N : Nat} {c : Code} {Q : Exit → AF → zy7 → Prop} {φ : AF} {st : zy7} {α σ : Type} (mt : List Nat) (keep : List Nat) (l : List α) (w d : Nat) (acc : Nat → σ → List AV) (inv : Nat → σ → Prop) (ch : Nat → σ → List (Nat × AV)) (so : Nat → σ → zy7)
    (hw : ∀ i s, inv i s → ∀ e ∈ acc i s, e.isJunk = false ∧ e.width = w)
    (hok : codeOk N c = true)
    (h0 : ∃ s b, inv 0 s ∧ (acc 0 s ≠ [] → so 0 s b = none) ∧ zx7 φ st (keepL φ keep ((d, accV w b (acc 0 s)) :: ch 0 s)) (accS (so 0 s) b (acc 0 s)))
    (h1 : ∀ i x s b, l[i]? = some x → i < l.length → ((i : Int) < (l.length : Int)) → l.drop i = x :: l.drop (i + 1) → inv i s → (acc i s ≠ [] → so i s b = none) →
      aCode P N mt c (loopQ (fun φ' st' => ∃ s' b', inv (i + 1) s' ∧ (acc (i + 1) s' ≠ [] → so (i + 1) s' b' = none) ∧ zx7 φ' st' (keepL φ keep ((d, accV w b' (acc (i + 1) s')) :: ch (i + 1) s')) (accS (so (i + 1) s') b' (acc (i + 1) s'))) Q) (frU (keepL φ keep ((d, accV w b (acc i s)) :: ch i s))) (accS (so i s) b (acc i s)))
    (h2 : ∀ s b, ¬ ((l.length : Int) < (l.length : Int)) → inv l.length s → (acc l.length s ≠ [] → so l.length s b = none) → aCode P N mt c (loopQ (fun _ _ => False) Q) (frU (finL b (acc l.length s) (keepL φ keep ((d, accV w b (acc l.length s)) :: ch l.length s)))) (so l.length s)) : ARun P N (.loop c) Q φ st := by
  have weak : ∀ (k : AF → zy7 → Prop) (φ0 : AF) (st0 : zy7) (k' : AF → zy7 → Prop), (∀ φ' st', k' φ' st' → k φ' st') →
      ARun P N c (loopQ k' Q) φ0 st0 → ARun P N c (loopQ k Q) φ0 st0 := by
    intro k φ0 st0 k' hk hr a w R
    refine wp_mono (hr a w R) ?_
    rintro e a' w' ⟨φ', st', R', T, sm, q⟩
    refine ⟨φ', st', R', T, sm, ?_⟩
    cases e with
    | normal => exact hk _ _ q
    | _ => exact q
  refine arun_loop (α := Nat × σ × Nat) (fun p => p.1 ≤ l.length ∧ inv p.1 p.2.1 ∧ (acc p.1 p.2.1 ≠ [] → so p.1 p.2.1 p.2.2 = none)) (fun p => frL (keepL φ keep ((d, accV w p.2.2 (acc p.1 p.2.1)) :: ch p.1 p.2.1))) (fun p => accS (so p.1 p.2.1) p.2.2 (acc p.1 p.2.1)) (fun p => l.length - p.1) ?_ ?_
  · obtain ⟨s, b, hs, hb, hl⟩ := h0
    exact ⟨(0, s, b), ⟨Nat.zero_le _, hs, hb⟩, hl⟩
  · rintro ⟨i, s, b⟩ ⟨hi, hs, hb⟩
    simp only at hi hs hb ⊢
    rcases Nat.lt_or_ge i l.length with hlt | hge
    · refine weak _ _ _ _ ?_ (arun_code mt hok (h1 i l[i] s b (List.getElem?_eq_getElem hlt) hlt (by omega) (List.drop_eq_getElem_cons hlt) hs hb))
      rintro φ' st' ⟨s', b', h1', h2', h3'⟩
      exact ⟨(i + 1, s', b'), by simp only; omega, ⟨by simp only; omega, h1', h2'⟩, h3'⟩
    · obtain rfl : i = l.length := by omega
      refine ARun.less (less_finL b (acc l.length s) hb (fun e he => (hw _ s hs e he).1) ⟨w, fun e he => (hw _ s hs e he).2⟩ _) ?_
      refine weak _ _ _ _ ?_ (arun_code mt hok (h2 s b (by omega) hs hb))
      exact fun _ _ h => h.elim
theorem fin_ms {b bb n w : Nat} {l : List AV} (h : l ≠ [] → bb ≠ b) : (AV.mslice bb 0 n w).fin b l = .mslice bb 0 n w := by
  unfold AV.fin
  split
  · rfl
  · rename_i hl
    have : bb ≠ b := h (by rintro rfl; simp at hl)
    simp [AV.fz, this, AV.soft]
end Go.AW


namespace Go.AW
open Go.Proofs.Try
set_option linter.unusedSimpArgs false
set_option maxRecDepth 100000
theorem sumL_take_le' {α : Type} (f : α → Nat) (l : List α) (i : Nat) : sumL f (l.take i) ≤ sumL f l := by
  have := sumL_append f (l.take i) (l.drop i)
  rw [List.take_append_drop] at this
  omega
def Full (v : Tm) (room : Nat) (st : zy7) (r : AV) (st' : zy7) : Prop :=
  st' = st ∧ ∃ (x : Tm) (left : Int), r = .tup [x.av, .int .i64 left] ∧ -1 ≤ left ∧ if v.nodes ≤ room then x = v ∧ left = (room : Int) - v.nodes else left < 0
abbrev tf_P3_20 := And.intro tI_2 (And.intro zI_2 (And.intro underlying2 (And.intro tI_3 (And.intro zI_3 (And.intro underlying3 (And.intro tI_4 (And.intro zI_4 (And.intro underlying4 (And.intro tI_5 (And.intro zI_5 (And.intro underlying5 (And.intro tI_6 (And.intro zI_6 (And.intro underlying6 (And.intro tI_7 (And.intro zI_7 (And.intro fI_7_0 (And.intro fI_7_1 (And.intro fI_7_2 (And.intro fI_7_3 (And.intro bI_7 (And.intro tI_8 (And.intro zI_8 (And.intro fI_8_0 (And.intro fI_8_1 (And.intro fI_8_2 (And.intro fI_8_3 (And.intro bI_8 (And.intro tI_9 (And.intro zI_9 (And.intro underlying9 (And.intro tI_10 (And.intro zI_10 (And.intro underlying10 (And.intro tI_11 (And.intro zI_11 (And.intro underlying11 (And.intro tI_12 (And.intro zI_12 (And.intro underlying12 (And.intro tI_16 (And.intro zI_16 (And.intro tI_17 (And.intro zI_17 (And.intro tI_18 (And.intro zI_18 (And.intro fI_18_0 (And.intro bI_18 (And.intro tI_23 (And.intro zI_23 (And.intro eI_23 (And.intro eB_23 (And.intro eZ_23 (And.intro underlying23 (And.intro tI_25 (And.intro zI_25 (And.intro fI_25_0 (And.intro fI_25_1 (And.intro fI_25_2 (And.intro fI_25_3 (And.intro bI_25 (And.intro tI_63 (And.intro zI_63 (And.intro eI_63 (And.intro eB_63 (And.intro eZ_63 underlying63))))))))))))))))))))))))))))))))))))))))))))))))))))))))))))))))))
theorem c_l3Full {σ : Sub} {R : Int → Tm} {rk : Int → Nat} {B : Nat} (G : Good σ R rk B) (hok : AllS OkN σ) (bb : Nat) :
    ∀ (room : Nat) (t : Tm) (st : zy7), room ≤ 120 → OkN t → ArrAt st bb σ → zq7 prog 20 [t.av, .mslice bb 0 26 4, .int .i64 (room : Int)] st (Full (t.mapv R) room st)
  | room, t, st, hr, ht, hS => by
    have IH := fun (room' : Nat) (hlt : room' < room) (x : Tm) st => c_l3Full G hok bb room' x st
    obtain ⟨f, hw⟩ := G.wk t
    generalize wk σ t = u at *
    have hokA : AllS OkA σ := fun n u hu => (hok n u hu).1
    have hsu := hw.all (p := OkN) hok ht
    have hcw := fun st (hS : ArrAt st bb σ) => c_l3Walk hokA hw ht.1 bb st hS
    obtain ⟨k, n, s, ts⟩ := u
    have hv := good_walked G hw (Tm.okA_cv _ hsu.1)
    rw [hv]
    obtain ⟨hlen, hsms⟩ := Tm.small_mk (Tm.okA_small _ hsu.1)
    have hle4 := (ownOk_kind (Tm.okA_own hsu.1).1).2
    have hkn := (Tm.okA_own hsu.1).2
    have hkk : ∀ x ∈ ts, OkN x := fun x hx => by
      refine ⟨hkn x hx, ?_⟩
      have := hsu.2
      rw [Tm.nodes_mk] at this
      have := sumL_mem (f := Tm.nodes) hx
      omega
    refine zq7.dropS (zq7.fin ?_)
    refine zw6 [1000000, 3, 8] func20 ntmps20 rfl rfl (by kernel_rfl) (by decide +kernel) (by show 3 ≤ _; decide +kernel) ?_
    intro _
    simp -implicitDefEqProofs only [zy4, evE, ↓evZ2, ↓evZ3, ↓Int.cast_ofNat_Int, implies_true, zy2, aFn, List.contains, List.elem, zq3, zy1, zq2, sub, zx3, zw2, zw3, zy3, gd, zq1, zw0, zq0, zx0, zx2, zx1, zy0, zw1, List.range', ↓reduceIte, reduceCtorEq, Nat.reduceEqDiff, Nat.reduceAdd, Nat.reduceLeDiff, Nat.reduceMul, Nat.reduceLT, Nat.reduceBEq, Int.reduceEq, tf_P3_20]
    intro b3 h3 b6 h6
    have h63 : b6 ≠ b3 := by rintro rfl; rw [zy7.upd_same] at h6; cases h6
    have hn6 : st b6 = none := by rw [zy7.upd_ne st _ h63] at h6; exact h6
    have hb3 : b3 ≠ bb := by rintro rfl; rw [ArrAt, h3] at hS; cases hS
    have hb6 : b6 ≠ bb := by rintro rfl; rw [ArrAt, hn6] at hS; cases hS
    have hS' : ∀ o o', ArrAt ((st.upd b3 o).upd b6 o') bb σ := fun o o' => (hS.upd hb3).upd hb6
    have hwr : ∀ z : Int, -1 ≤ z → z ≤ 200 → IntKind.i64.wrap z = z := fun z h1 h2 => wrap64 (by omega) (by omega)
    have hw1 := hwr ((room : Int) - 1) (by omega) (by omega)
    refine zq4 (fun h => ?_) (fun h => ?_)
    · simp only [decide_eq_true_eq] at h
      obtain rfl : room = 0 := by omega
      simp -implicitDefEqProofs only [zy4, h63, h63.symm, hw1, evE, ↓evZ2, ↓evZ3, ↓Int.cast_ofNat_Int, implies_true, zy2, aFn, List.contains, List.elem, zq3, zy1, zq2, sub, zx3, zw2, zw3, zy3, gd, zq1, zw0, zq0, zx0, zx2, zx1, zy0, zw1, List.range', ↓reduceIte, reduceCtorEq, Nat.reduceEqDiff, Nat.reduceAdd, Nat.reduceLeDiff, Nat.reduceMul, Nat.reduceLT, Nat.reduceBEq, Int.reduceEq, tf_P3_20]
      refine ⟨0, [], _, rfl, by simp, by simp, ⟨4, by simp⟩, st, (fun x => by by_cases e3 : x = b3 <;> by_cases e6 : x = b6 <;> simp_all [zy7.upd]), rfl, Tm.zero, -1, ?_, Int.le_refl _, ?_⟩
      · simp only [Tm.zero, Tm.av_mk, fin_agg, fin_tup, fin_int, fin_bool, fin_str, fin_slice, fin_fslice, fin_pptr, fin_ptr, fin_func, fin_map, fin_undef, fin_accV, tm_fin, List.map_cons, List.map_nil]
      · rw [if_neg (by rw [Tm.nodes_mk]; omega)]; decide
    simp only [decide_eq_false_iff_not] at h
    simp -implicitDefEqProofs only [zy4, h63, h63.symm, hw1, evE, ↓evZ2, ↓evZ3, ↓Int.cast_ofNat_Int, implies_true, zy2, aFn, List.contains, List.elem, zq3, zy1, zq2, sub, zx3, zw2, zw3, zy3, gd, zq1, zw0, zq0, zx0, zx2, zx1, zy0, zw1, List.range', ↓reduceIte, reduceCtorEq, Nat.reduceEqDiff, Nat.reduceAdd, Nat.reduceLeDiff, Nat.reduceMul, Nat.reduceLT, Nat.reduceBEq, Int.reduceEq, tf_P3_20]
    refine (hcw _ (hS' _ _)).to ?_
    simp only [Tm.av_mk]
    simp -implicitDefEqProofs only [zy4, h63, h63.symm, hw1, evE, ↓evZ2, ↓evZ3, ↓Int.cast_ofNat_Int, implies_true, zy2, aFn, List.contains, List.elem, zq3, zy1, zq2, sub, zx3, zw2, zw3, zy3, gd, zq1, zw0, zq0, zx0, zx2, zx1, zy0, zw1, List.range', ↓reduceIte, reduceCtorEq, Nat.reduceEqDiff, Nat.reduceAdd, Nat.reduceLeDiff, Nat.reduceMul, Nat.reduceLT, Nat.reduceBEq, Int.reduceEq, tf_P3_20]
    intro b8 h8
    have h83 : b8 ≠ b3 := by rintro rfl; simp [zy7.upd, h63.symm] at h8
    have h86 : b8 ≠ b6 := by rintro rfl; simp [zy7.upd, h63] at h8
    have hn8 : st b8 = none := by rw [zy7.upd_ne _ _ h83, zy7.upd_ne _ _ h86, zy7.upd_ne _ _ h83] at h8; exact h8
    have hb8 : b8 ≠ bb := by rintro rfl; rw [ArrAt, hn8] at hS; cases hS
    rw [zy7.upd_mid h63]
    have hWS : ArrAt ((st.upd b6 (.cells [.int .i64 0, .int .i64 0, .str ⟨#[]⟩, .fslice []])).upd b3 (.cells [.int .i64 k, .int .i64 n, .str s, .slice (ts.map Tm.av)])) bb σ := (hS.upd hb6).upd hb3
    have hW6 : ((st.upd b6 (.cells [.int .i64 0, .int .i64 0, .str ⟨#[]⟩, .fslice []])).upd b3 (.cells [.int .i64 k, .int .i64 n, .str s, .slice (ts.map Tm.av)])) b6 = some (.cells [.int .i64 0, .int .i64 0, .str ⟨#[]⟩, .fslice []]) := by rw [zy7.upd_ne _ _ h63, zy7.upd_same]
    have hW3 : ((st.upd b6 (.cells [.int .i64 0, .int .i64 0, .str ⟨#[]⟩, .fslice []])).upd b3 (.cells [.int .i64 k, .int .i64 n, .str s, .slice (ts.map Tm.av)])) b3 = some (.cells [.int .i64 k, .int .i64 n, .str s, .slice (ts.map Tm.av)]) := zy7.upd_same _ _ _
    have hWd : ∀ Y Z, Drops ((((st.upd b6 (.cells [.int .i64 0, .int .i64 0, .str ⟨#[]⟩, .fslice []])).upd b3 (.cells [.int .i64 k, .int .i64 n, .str s, .slice (ts.map Tm.av)])).upd b8 Z).upd b6 Y) st := fun Y Z x => by
      by_cases e3 : x = b3 <;> by_cases e6 : x = b6 <;> by_cases e8 : x = b8 <;> simp_all [zy7.upd]
    generalize ((st.upd b6 (.cells [.int .i64 0, .int .i64 0, .str ⟨#[]⟩, .fslice []])).upd b3 (.cells [.int .i64 k, .int .i64 n, .str s, .slice (ts.map Tm.av)])) = W at *
    have hsum : (Tm.mk k n s (ts.map (Tm.mapv R))).nodes = 1 + sumL Tm.nodes (ts.map (Tm.mapv R)) := Tm.nodes_mk _ _ _ _
    refine zy5 (σ := Nat × List Tm × Int) [1000000, 3, 8] [1, 3, 6, 7, 8] ts
      (fun i p => (p.2.1.map Tm.av ≠ [] → (W.upd b8 (.cells ([.int .i64 k, .int .i64 n, .str s] ++ [accV 4 p.1 (p.2.1.map Tm.av)]))) p.1 = none) ∧ p.2.1.length = i ∧ -1 ≤ p.2.2 ∧
        (0 ≤ p.2.2 → p.2.1 = (ts.take i).map (Tm.mapv R) ∧ p.2.2 = (room : Int) - 1 - sumL Tm.nodes p.2.1) ∧ (p.2.2 < 0 → room < 1 + sumL Tm.nodes (ts.map (Tm.mapv R))))
      (fun i p => [(9, .int .i64 p.2.2), (10, .int .i64 i)])
      (fun i p => kidS W b8 p.1 [.int .i64 k, .int .i64 n, .str s] (p.2.1.map Tm.av)) (by decide +kernel)
      ⟨(0, [], (room : Int) - 1), ⟨fun h => absurd rfl h, rfl, by simp only; omega, fun _ => ⟨by simp, by simp [sumL]⟩, fun h => by simp only at h; omega⟩, zx7.mk (by simp -implicitDefEqProofs only [zy4, h63, h63.symm, h83, h83.symm, h86, h86.symm, hw1, List.length_map, evE, ↓evZ2, ↓evZ3, ↓Int.cast_ofNat_Int, implies_true, zy2, aFn, List.contains, List.elem, zq3, zy1, zq2, sub, zx3, zw2, zw3, zy3, gd, zq1, zw0, zq0, zx0, zx2, zx1, zy0, zw1, List.range', ↓reduceIte, reduceCtorEq, Nat.reduceEqDiff, Nat.reduceAdd, Nat.reduceLeDiff, Nat.reduceMul, Nat.reduceLT, Nat.reduceBEq, Int.reduceEq, tf_P3_20])⟩ (fun i x p hx hlt hlt' hdr' hinv => ?_) (fun p hge hinv => ?_)
    · obtain ⟨b, acc, left⟩ := p
      obtain ⟨i1, i2, i3, i4, i5⟩ := hinv
      simp only at i1 i2 i3 i4 i5
      have h3o := kidS_ne i1 (x := b3) (by rw [hW3]; simp) h83.symm
      rw [hW3] at h3o
      simp -implicitDefEqProofs only [hlt', decide_true, beq_self_eq_true, zy4, h63, h63.symm, h83, h83.symm, h86, h86.symm, hw1, List.length_map, h3o, evE, ↓evZ2, ↓evZ3, ↓Int.cast_ofNat_Int, implies_true, zy2, aFn, List.contains, List.elem, zq3, zy1, zq2, sub, zx3, zw2, zw3, zy3, gd, zq1, zw0, zq0, zx0, zx2, zx1, zy0, zw1, List.range', ↓reduceIte, reduceCtorEq, Nat.reduceEqDiff, Nat.reduceAdd, Nat.reduceLeDiff, Nat.reduceMul, Nat.reduceLT, Nat.reduceBEq, Int.reduceEq, tf_P3_20]
      refine zq4 (fun h9 => ?_) (fun h9 => ?_)
      case refine_2 =>
        simp only [decide_eq_false_iff_not] at h9
        have hbo := kidS_c i1
        have h6o := kidS_ne i1 (x := b6) (by rw [hW6]; simp) h86.symm
        rw [hW6] at h6o
        simp -implicitDefEqProofs only [zy4, hbo, h6o, accV_store, evE, ↓evZ2, ↓evZ3, ↓Int.cast_ofNat_Int, implies_true, zy2, aFn, List.contains, List.elem, zq3, zy1, zq2, sub, zx3, zw2, zw3, zy3, gd, zq1, zw0, zq0, zx0, zx2, zx1, zy0, zw1, List.range', ↓reduceIte, reduceCtorEq, Nat.reduceEqDiff, Nat.reduceAdd, Nat.reduceLeDiff, Nat.reduceMul, Nat.reduceLT, Nat.reduceBEq, Int.reduceEq, tf_P3_20]
        obtain ⟨g5, g6⟩ := kidS_upd (o := .cells [.int .i64 k, .int .i64 n, .str s, accV 4 b (acc.map Tm.av)]) i1 (show W b6 ≠ none by rw [hW6]; simp) h86.symm
        refine ⟨b, _, _, g5, g6, tm_junk _, ⟨4, tm_widths _⟩, st, hWd _ _, rfl, .mk k n s acc, left, ?_, i3, ?_⟩
        · simp only [fin_tup, fin_agg, List.map_cons, List.map_nil, fin_int, fin_str, accV_fin, Tm.av_mk]
        · rw [hsum]
          skip
          rw [if_neg (by have := i5 (by omega); omega)]
          omega
      simp only [decide_eq_true_eq] at h9
      obtain ⟨e1, e2⟩ := i4 h9
      have hmem := List.mem_of_getElem? hx
      have hsl := sumL_take_le' Tm.nodes (ts.map (Tm.mapv R)) (i + 1)
      rw [← List.map_take, List.take_add_one, hx] at hsl
      simp only [Option.toList_some, List.map_append, List.map_cons, List.map_nil, sumL_append, sumL, ← e1] at hsl
      obtain ⟨room', rfl⟩ : ∃ r : Nat, left = r := ⟨left.toNat, by omega⟩
      have hlen' : (acc.map Tm.av).length = i := by rw [List.length_map, i2]
      have hw := wrap64 (n := (i : Int) + 1) (by omega) (by omega)
      have hsS : ArrAt (kidS W b8 b [.int .i64 k, .int .i64 n, .str s] (acc.map Tm.av)) bb σ := by
        unfold ArrAt
        rw [kidS_ne i1 (by rw [hWS]; simp) hb8.symm]
        exact hWS
      have hbo := kidS_c i1
      simp -implicitDefEqProofs only [zy4, hdr', List.length_map, h3o, ev_at (av := Tm.av) eI_23 hx (Tm.av_width x), Tm.av_agg, Tm.av_width, Tm.av_store, Tm.av_junk, hbo, accV_agg, accV_width, evE, ↓evZ2, ↓evZ3, ↓Int.cast_ofNat_Int, implies_true, zy2, aFn, List.contains, List.elem, zq3, zy1, zq2, sub, zx3, zw2, zw3, zy3, gd, zq1, zw0, zq0, zx0, zx2, zx1, zy0, zw1, List.range', ↓reduceIte, reduceCtorEq, Nat.reduceEqDiff, Nat.reduceAdd, Nat.reduceLeDiff, Nat.reduceMul, Nat.reduceLT, Nat.reduceBEq, Int.reduceEq, tf_P3_20]
      refine (IH room' (by omega) x _ (by omega) (hkk x hmem) hsS).mono ?_
      rintro _ _ ⟨rfl, y, left', rfl, hl1, hl2⟩
      simp -implicitDefEqProofs only [zy4, hdr', List.length_map, h3o, ev_at (av := Tm.av) eI_23 hx (Tm.av_width x), Tm.av_agg, Tm.av_width, Tm.av_store, Tm.av_junk, hbo, accV_agg, accV_width, evE, ↓evZ2, ↓evZ3, ↓Int.cast_ofNat_Int, implies_true, zy2, aFn, List.contains, List.elem, zq3, zy1, zq2, sub, zx3, zw2, zw3, zy3, gd, zq1, zw0, zq0, zx0, zx2, zx1, zy0, zw1, List.range', ↓reduceIte, reduceCtorEq, Nat.reduceEqDiff, Nat.reduceAdd, Nat.reduceLeDiff, Nat.reduceMul, Nat.reduceLT, Nat.reduceBEq, Int.reduceEq, tf_P3_20]
      refine acc_append eI_23 eB_23 eZ_23 rfl rfl (by intro e he; simp only [List.mem_cons, List.not_mem_nil, or_false] at he; subst he; exact ⟨Tm.av_width _, Tm.av_store _⟩) (tm_widths _) i1 (by simp only [hlen', List.length_cons, List.length_nil]; omega) (by simp only [hlen', List.length_cons, List.length_nil]; omega) (fun b' hb' => ?_)
      rw [show acc.map Tm.av ++ [y.av] = (acc ++ [y]).map Tm.av by simp] at hb' ⊢
      obtain ⟨g1, g2, g3⟩ := kidS_set hb'
      simp only [List.cons_append, List.nil_append] at g1 g3
      simp -implicitDefEqProofs only [g3, accV_cells, accV_store, Nat.le_refl, g1, hw, zy4, hdr', List.length_map, h3o, ev_at (av := Tm.av) eI_23 hx (Tm.av_width x), Tm.av_agg, Tm.av_width, Tm.av_store, Tm.av_junk, hbo, accV_agg, accV_width, evE, ↓evZ2, ↓evZ3, ↓Int.cast_ofNat_Int, implies_true, zy2, aFn, List.contains, List.elem, zq3, zy1, zq2, sub, zx3, zw2, zw3, zy3, gd, zq1, zw0, zq0, zx0, zx2, zx1, zy0, zw1, List.range', ↓reduceIte, reduceCtorEq, Nat.reduceEqDiff, Nat.reduceAdd, Nat.reduceLeDiff, Nat.reduceMul, Nat.reduceLT, Nat.reduceBEq, Int.reduceEq, tf_P3_20]
      refine ⟨(b', acc ++ [y], left'), ⟨g2, by simp [i2], hl1, fun h => ?_, fun h => ?_⟩, zx7.mk (by simp -implicitDefEqProofs only [zy4, hdr', List.length_map, h3o, ev_at (av := Tm.av) eI_23 hx (Tm.av_width x), Tm.av_agg, Tm.av_width, Tm.av_store, Tm.av_junk, hbo, accV_agg, accV_width, evE, ↓evZ2, ↓evZ3, ↓Int.cast_ofNat_Int, implies_true, zy2, aFn, List.contains, List.elem, zq3, zy1, zq2, sub, zx3, zw2, zw3, zy3, gd, zq1, zw0, zq0, zx0, zx2, zx1, zy0, zw1, List.range', ↓reduceIte, reduceCtorEq, Nat.reduceEqDiff, Nat.reduceAdd, Nat.reduceLeDiff, Nat.reduceMul, Nat.reduceLT, Nat.reduceBEq, Int.reduceEq, tf_P3_20])⟩
      · simp only at h
        split at hl2
        · obtain ⟨rfl, hl3⟩ := hl2
          refine ⟨by rw [List.take_add_one, hx]; simp [e1], ?_⟩
          simp only [sumL_append, sumL]
          omega
        · omega
      · simp only at h
        split at hl2
        · omega
        · omega
    · obtain ⟨b, acc, left⟩ := p
      obtain ⟨i1, i2, i3, i4, i5⟩ := hinv
      simp only at i1 i2 i3 i4 i5
      rw [List.take_length] at i4
      have h3o := kidS_ne i1 (x := b3) (by rw [hW3]; simp) h83.symm
      rw [hW3] at h3o
      simp -implicitDefEqProofs only [hge, zy4, h63, h63.symm, h83, h83.symm, h86, h86.symm, hw1, List.length_map, h3o, evE, ↓evZ2, ↓evZ3, ↓Int.cast_ofNat_Int, implies_true, zy2, aFn, List.contains, List.elem, zq3, zy1, zq2, sub, zx3, zw2, zw3, zy3, gd, zq1, zw0, zq0, zx0, zx2, zx1, zy0, zw1, List.range', ↓reduceIte, reduceCtorEq, Nat.reduceEqDiff, Nat.reduceAdd, Nat.reduceLeDiff, Nat.reduceMul, Nat.reduceLT, Nat.reduceBEq, Int.reduceEq, tf_P3_20]
      have hbo := kidS_c i1
      have h6o := kidS_ne i1 (x := b6) (by rw [hW6]; simp) h86.symm
      rw [hW6] at h6o
      simp -implicitDefEqProofs only [zy4, hbo, h6o, accV_store, evE, ↓evZ2, ↓evZ3, ↓Int.cast_ofNat_Int, implies_true, zy2, aFn, List.contains, List.elem, zq3, zy1, zq2, sub, zx3, zw2, zw3, zy3, gd, zq1, zw0, zq0, zx0, zx2, zx1, zy0, zw1, List.range', ↓reduceIte, reduceCtorEq, Nat.reduceEqDiff, Nat.reduceAdd, Nat.reduceLeDiff, Nat.reduceMul, Nat.reduceLT, Nat.reduceBEq, Int.reduceEq, tf_P3_20]
      obtain ⟨g5, g6⟩ := kidS_upd (o := .cells [.int .i64 k, .int .i64 n, .str s, accV 4 b (acc.map Tm.av)]) i1 (show W b6 ≠ none by rw [hW6]; simp) h86.symm
      refine ⟨b, _, _, g5, g6, tm_junk _, ⟨4, tm_widths _⟩, st, hWd _ _, rfl, .mk k n s acc, left, ?_, i3, ?_⟩
      · simp only [fin_tup, fin_agg, List.map_cons, List.map_nil, fin_int, fin_str, accV_fin, Tm.av_mk]
      · rw [hsum]
        skip
        rcases Int.lt_or_le left 0 with h9 | h9
        · rw [if_neg (by have := i5 h9; omega)]; exact h9
        · obtain ⟨e1, e2⟩ := i4 h9
          rw [← e1] at i5 ⊢
          rw [if_pos (by omega)]
          exact ⟨rfl, by omega⟩
termination_by room => room
decreasing_by exact hlt
end Go.AW


namespace Go.AW
open Go.Proofs.Try
set_option linter.unusedSimpArgs false
set_option maxRecDepth 100000
abbrev Bt := Fin 256
def byteAv (b : Bt) : AV := .int .u8 (b.val : Int)
theorem byteAv_width (b : Bt) : (byteAv b).width = 1 := rfl
def RdAt (st : zy7) (c : Nat) (bs : List Bt) (p : Nat) : Prop := st c = some (.cells [.slice (bs.map byteAv), .int .i64 (p : Int)])
def rdC (bs : List Bt) (p : Nat) : AO := .cells [.slice (bs.map byteAv), .int .i64 (p : Int)]
theorem tmod_nat (a b : Nat) : (a : Int).tmod (b : Int) = ((a % b : Nat) : Int) := (Int.ofNat_tmod a b).symm
theorem tdiv_nat (a b : Nat) : (a : Int).tdiv (b : Int) = ((a / b : Nat) : Int) := (Int.ofNat_tdiv a b).symm
theorem aXor_nat (a b : Nat) (ha : a < 2 ^ 62) (hb : b < 2 ^ 62) : ∃ m : Nat, aXor .i64 (a : Int) (b : Int) = (m : Int) := by
  have hx := Nat.xor_lt_two_pow ha hb
  refine ⟨a ^^^ b, ?_⟩
  unfold aXor
  show IntKind.i64.wrap (((BitVec.ofInt 64 (a : Int) ^^^ BitVec.ofInt 64 (b : Int)).toNat : Nat) : Int) = _
  rw [BitVec.ofInt_natCast, BitVec.ofInt_natCast, BitVec.toNat_xor, BitVec.toNat_ofNat, BitVec.toNat_ofNat, Nat.mod_eq_of_lt (by omega), Nat.mod_eq_of_lt (by omega)]
  rw [wrap64 (by omega) (by omega)]
abbrev tf_D1_31 := And.intro tI_2 (And.intro zI_2 (And.intro underlying2 (And.intro tI_3 (And.intro zI_3 (And.intro underlying3 (And.intro tI_4 (And.intro zI_4 (And.intro underlying4 (And.intro tI_5 (And.intro zI_5 (And.intro underlying5 (And.intro tI_6 (And.intro zI_6 (And.intro underlying6 (And.intro tI_7 (And.intro zI_7 (And.intro fI_7_0 (And.intro fI_7_1 (And.intro fI_7_2 (And.intro fI_7_3 (And.intro bI_7 (And.intro tI_8 (And.intro zI_8 (And.intro fI_8_0 (And.intro fI_8_1 (And.intro fI_8_2 (And.intro fI_8_3 (And.intro bI_8 (And.intro tI_9 (And.intro zI_9 (And.intro underlying9 (And.intro tI_10 (And.intro zI_10 (And.intro underlying10 (And.intro tI_18 (And.intro zI_18 (And.intro fI_18_0 (And.intro bI_18 (And.intro tI_19 (And.intro zI_19 (And.intro fI_19_0 (And.intro bI_19 (And.intro tI_21 (And.intro zI_21 (And.intro underlying21 (And.intro tI_22 (And.intro zI_22 (And.intro eI_22 (And.intro eB_22 (And.intro eZ_22 (And.intro underlying22 (And.intro tI_23 (And.intro zI_23 (And.intro eI_23 (And.intro eB_23 (And.intro eZ_23 (And.intro underlying23 (And.intro tI_34 (And.intro zI_34 (And.intro tI_58 (And.intro zI_58 (And.intro fI_58_0 (And.intro fI_58_1 bI_58)))))))))))))))))))))))))))))))))))))))))))))))))))))))))))))))
theorem c_pick (bs : List Bt) (c p : Nat) (hp : p ≤ 1099511627776) (n : Nat) (hn : 1 ≤ n) (hn2 : n ≤ 1048576) (st : zy7) (h : RdAt st c bs p) :
    zq7 prog 31 [.ptr c 0, .int .i64 (n : Int)] st (fun r st' => ∃ k : Nat, k < n ∧ r = .int .i64 (k : Int) ∧ st' = st.upd c (rdC bs (p + 1))) := by
  unfold RdAt at h
  refine zw6 [1000000] func31 ntmps31 rfl rfl (by kernel_rfl) (by decide +kernel) (by show 2 ≤ _; decide +kernel) ?_
  intro _
  have hw1 : IntKind.i64.wrap ((p : Int) + 1) = (p : Int) + 1 := wrap64 (by omega) (by omega)
  simp -implicitDefEqProofs only [zy4, h, hw1, evE, ↓evZ2, ↓evZ3, ↓Int.cast_ofNat_Int, implies_true, zy2, aFn, List.contains, List.elem, zq3, zy1, zq2, sub, zx3, zw2, zw3, zy3, gd, zq1, zw0, zq0, zx0, zx2, zx1, zy0, zw1, List.range', ↓reduceIte, reduceCtorEq, Nat.reduceEqDiff, Nat.reduceAdd, Nat.reduceLeDiff, Nat.reduceMul, Nat.reduceLT, Nat.reduceBEq, Int.reduceEq, tf_D1_31]
  have hn1 : ¬ (n : Int) < 1 := by omega
  have hw2 : IntKind.i64.wrap ((p : Int) + 1 - 1) = (p : Int) := by rw [wrap64 (by omega) (by omega)]; omega
  have hst : ∀ (q : zy7), q c = some (.cells [.slice (bs.map byteAv), .int .i64 ((p : Int) + 1)]) → True := fun _ _ => trivial
  have hrd : rdC bs (p + 1) = .cells [.slice (bs.map byteAv), .int .i64 ((p : Int) + 1)] := by simp [rdC]
  rw [hrd]
  refine zx4 (fun h1 => ?_) (fun h1 => ?_)
  case refine_2 => simp [hn1] at h1
  simp -implicitDefEqProofs only [decide_false, beq_self_eq_true, zy4, hw1, hw2, hn1, List.length_map, evE, ↓evZ2, ↓evZ3, ↓Int.cast_ofNat_Int, implies_true, zy2, aFn, List.contains, List.elem, zq3, zy1, zq2, sub, zx3, zw2, zw3, zy3, gd, zq1, zw0, zq0, zx0, zx2, zx1, zy0, zw1, List.range', ↓reduceIte, reduceCtorEq, Nat.reduceEqDiff, Nat.reduceAdd, Nat.reduceLeDiff, Nat.reduceMul, Nat.reduceLT, Nat.reduceBEq, Int.reduceEq, tf_D1_31]
  refine zq4 (fun h2 => ?_) (fun h2 => ?_)
  · simp -implicitDefEqProofs only [zy4, hw1, hw2, hn1, List.length_map, evE, ↓evZ2, ↓evZ3, ↓Int.cast_ofNat_Int, implies_true, zy2, aFn, List.contains, List.elem, zq3, zy1, zq2, sub, zx3, zw2, zw3, zy3, gd, zq1, zw0, zq0, zx0, zx2, zx1, zy0, zw1, List.range', ↓reduceIte, reduceCtorEq, Nat.reduceEqDiff, Nat.reduceAdd, Nat.reduceLeDiff, Nat.reduceMul, Nat.reduceLT, Nat.reduceBEq, Int.reduceEq, tf_D1_31]
    exact ⟨0, by omega, rfl⟩
  simp -implicitDefEqProofs only [zy4, hw1, hw2, hn1, List.length_map, evE, ↓evZ2, ↓evZ3, ↓Int.cast_ofNat_Int, implies_true, zy2, aFn, List.contains, List.elem, zq3, zy1, zq2, sub, zx3, zw2, zw3, zy3, gd, zq1, zw0, zq0, zx0, zx2, zx1, zy0, zw1, List.range', ↓reduceIte, reduceCtorEq, Nat.reduceEqDiff, Nat.reduceAdd, Nat.reduceLeDiff, Nat.reduceMul, Nat.reduceLT, Nat.reduceBEq, Int.reduceEq, tf_D1_31]
  have hbl : bs.length ≠ 0 := by simpa using h2
  refine zq4 (fun h3 => ?_) (fun h3 => ?_)
  · simp only [decide_eq_true_eq] at h3
    obtain ⟨x, hx⟩ : ∃ x, bs[p]? = some x := ⟨_, List.getElem?_eq_getElem (by omega)⟩
    have hx2 := x.isLt
    have hb1 : IntKind.i64.wrap (x.val : Int) = (x.val : Int) := wrap64 (by omega) (by omega)
    have hn0 : ¬ (n : Int) = 0 := by omega
    have hatx : aIndexAddr prog 22 (.slice (bs.map byteAv)) (.int .i64 (p : Int)) = some (.pptr (.int .u8 x.val)) := ev_at (av := byteAv) eI_22 hx (byteAv_width x)
    simp -implicitDefEqProofs only [hatx, aConvert, hb1, hn0, zy4, hw1, hw2, hn1, List.length_map, evE, ↓evZ2, ↓evZ3, ↓Int.cast_ofNat_Int, implies_true, zy2, aFn, List.contains, List.elem, zq3, zy1, zq2, sub, zx3, zw2, zw3, zy3, gd, zq1, zw0, zq0, zx0, zx2, zx1, zy0, zw1, List.range', ↓reduceIte, reduceCtorEq, Nat.reduceEqDiff, Nat.reduceAdd, Nat.reduceLeDiff, Nat.reduceMul, Nat.reduceLT, Nat.reduceBEq, Int.reduceEq, tf_D1_31]
    exact ⟨x.val % n, Nat.mod_lt _ (by omega), by rw [tmod_nat]⟩
  · simp only [decide_eq_false_iff_not] at h3
    obtain ⟨x, hx⟩ : ∃ x, bs[p % bs.length]? = some x := ⟨_, List.getElem?_eq_getElem (Nat.mod_lt _ (by omega))⟩
    obtain ⟨y, hy⟩ : ∃ y, bs[(p * 7 + 3) % bs.length]? = some y := ⟨_, List.getElem?_eq_getElem (Nat.mod_lt _ (by omega))⟩
    have hx2 := x.isLt
    have hy2 := y.isLt
    have hl0 : ¬ (bs.length : Int) = 0 := by omega
    simp -implicitDefEqProofs only [zy4, hw1, hw2, hn1, List.length_map, evE, ↓evZ2, ↓evZ3, ↓Int.cast_ofNat_Int, implies_true, zy2, aFn, List.contains, List.elem, zq3, zy1, zq2, sub, zx3, zw2, zw3, zy3, gd, zq1, zw0, zq0, zx0, zx2, zx1, zy0, zw1, List.range', ↓reduceIte, reduceCtorEq, Nat.reduceEqDiff, Nat.reduceAdd, Nat.reduceLeDiff, Nat.reduceMul, Nat.reduceLT, Nat.reduceBEq, Int.reduceEq, tf_D1_31]
    refine zq5 [(0, 1), (1, 1), (2, 1), (3, 1), (4, 1), (5, 1), (6, 1), (7, 1), (8, 1), (9, 1), (10, 1), (11, 1), (12, 1), (13, 1), (14, 1), (15, 1), (16, 1), (17, 1), (18, 1), (19, 1), (20, 1), (21, 1), (22, 1), (23, 1), (24, 1), (25, 1), (26, 1), (27, 1), (28, 1), (29, 1), (30, 1), (31, 1), (32, 1), (33, 1), (34, 1), (35, 1), (36, 1), (37, 1), (38, 1), (39, 1), (40, 1), (41, 1), (42, 1), (43, 1), (44, 1), (45, 1)] [0, 1, 2, 3, 4, 5, 6, 7, 8, 9, 10, 11, 12, 13, 14, 15, 16, 17, 18, 19, 20, 21, 22, 23, 24, 25, 26, 27, 28, 29, 30, 31, 32, 33, 34, 35, 36, 37, 38, 39, 40, 41, 42, 43, 44, 45] (none0'.upd c (.cells [.slice (bs.map byteAv), .int .i64 ((p : Int) + 1)])) mixed (by decide +kernel) (by decide +kernel) (by decide +kernel) rfl (ext_one (zy7.upd_same _ _ _)) ?_
    have e7 : IntKind.i64.wrap ((p : Int) * 7) = (p : Int) * 7 := wrap64 (by omega) (by omega)
    have e8 : IntKind.i64.wrap ((p : Int) * 7 + 3) = (p : Int) * 7 + 3 := wrap64 (by omega) (by omega)
    have e9 : ((p : Int) * 7 + 3).tmod (bs.length : Int) = (((p * 7 + 3) % bs.length : Nat) : Int) := by rw [← tmod_nat]; congr 1
    have f1 : IntKind.i64.wrap ((x.val : Int) * 131) = (x.val : Int) * 131 := wrap64 (by omega) (by omega)
    have f2 : IntKind.i64.wrap ((y.val : Int) * 1117) = (y.val : Int) * 1117 := wrap64 (by omega) (by omega)
    have f3 : IntKind.i64.wrap ((x.val : Int) * 131 + (y.val : Int) * 1117) = (x.val : Int) * 131 + (y.val : Int) * 1117 := wrap64 (by omega) (by omega)
    have f4 : IntKind.i64.wrap ((p : Int) * 29) = (p : Int) * 29 := wrap64 (by omega) (by omega)
    have f5 : IntKind.i64.wrap ((x.val : Int) * 131 + (y.val : Int) * 1117 + (p : Int) * 29) = (x.val : Int) * 131 + (y.val : Int) * 1117 + (p : Int) * 29 := wrap64 (by omega) (by omega)
    have hb1 : IntKind.i64.wrap (x.val : Int) = (x.val : Int) := wrap64 (by omega) (by omega)
    have hb2 : IntKind.i64.wrap (y.val : Int) = (y.val : Int) := wrap64 (by omega) (by omega)
    generalize hjx : p % bs.length = jx at *
    generalize hjy : (p * 7 + 3) % bs.length = jy at *
    have e10 : (p : Int).tmod (bs.length : Int) = (jx : Int) := by rw [tmod_nat, hjx]
    have hatx : aIndexAddr prog 22 (.slice (bs.map byteAv)) (.int .i64 (jx : Int)) = some (.pptr (.int .u8 x.val)) := ev_at (av := byteAv) eI_22 hx (byteAv_width x)
    have haty : aIndexAddr prog 22 (.slice (bs.map byteAv)) (.int .i64 (jy : Int)) = some (.pptr (.int .u8 y.val)) := ev_at (av := byteAv) eI_22 hy (byteAv_width y)
    have hdv : p / bs.length ≤ p := Nat.div_le_self _ _
    generalize hq : p / bs.length = q at *
    have hqq : IntKind.i64.wrap ((p : Int).tdiv (bs.length : Int)) = (q : Int) := by rw [tdiv_nat, hq, wrap64 (by omega) (by omega)]
    have f6 : IntKind.i64.wrap ((q : Int) * 53) = (q : Int) * 53 := wrap64 (by omega) (by omega)
    obtain ⟨z, hz, hz2⟩ : ∃ z : Nat, (x.val : Int) * 131 + (y.val : Int) * 1117 + (p : Int) * 29 + (q : Int) * 53 = (z : Int) ∧ z < 2 ^ 61 := ⟨x.val * 131 + y.val * 1117 + p * 29 + q * 53, by omega, by omega⟩
    have f7 : IntKind.i64.wrap ((x.val : Int) * 131 + (y.val : Int) * 1117 + (p : Int) * 29 + (q : Int) * 53) = (z : Int) := by rw [hz]; exact wrap64 (by omega) (by omega)
    have hz64 : z / 64 ≤ z := Nat.div_le_self _ _
    obtain ⟨m, hm⟩ := aXor_nat z (z / 64) (by omega) (by omega)
    have f8 : IntKind.i64.wrap ((z : Int).tdiv 64) = ((z / 64 : Nat) : Int) := by rw [show (64 : Int) = ((64 : Nat) : Int) from rfl, tdiv_nat, wrap64 (by omega) (by omega)]
    generalize z / 64 = z2 at *
    have hn0 : ¬ (n : Int) = 0 := by omega
    simp -implicitDefEqProofs only [zy4, hw1, hw2, hn1, List.length_map, hl0, e7, e8, e9, e10, f1, f2, f3, f4, f5, f6, f7, f8, hm, hn0, hatx, haty, hb1, hb2, hqq, aConvert, evE, ↓evZ2, ↓evZ3, ↓Int.cast_ofNat_Int, implies_true, zy2, aFn, List.contains, List.elem, zq3, zy1, zq2, sub, zx3, zw2, zw3, zy3, gd, zq1, zw0, zq0, zx0, zx2, zx1, zy0, zw1, List.range', ↓reduceIte, reduceCtorEq, Nat.reduceEqDiff, Nat.reduceAdd, Nat.reduceLeDiff, Nat.reduceMul, Nat.reduceLT, Nat.reduceBEq, Int.reduceEq, tf_D1_31]
    exact ⟨m % n, Nat.mod_lt _ (by omega), rfl⟩
end Go.AW
